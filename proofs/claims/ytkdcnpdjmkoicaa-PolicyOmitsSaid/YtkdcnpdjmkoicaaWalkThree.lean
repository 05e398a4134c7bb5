/-
  What the functions compute that the statement reaches: contracts, and the plain laws between them. Conditions stand at each theorem.
-/
import Derived.Test.YtkdcnpdjmkoicaaWalkTwo
set_option linter.unusedVariables false
set_option linter.unusedSimpArgs false
set_option maxRecDepth 100000
set_option linter.unusedSimpArgs false
set_option linter.unusedVariables false
namespace Go.Proofs.Ytkdcnpdjmkoicaa
open Go Ab Lib
theorem law27_alive  : ACalls E.P 13 [] (.d (.bool true)) := by
  refine ACalls.intro E_ok Try.func13 rfl rfl Try.ntmps13 Try.results13 (Nat.le_of_ble_eq_true rfl) fun hok base S0 w0 => ?_
  -- region 0
  refine AWp.rseq E_ok [0, 1, 2, 3, 4, 5, 6, 7, 8, 9, 10, 11, 13, 14, 15, 16, 17, 18, 20, 58] fun K hK => ?_
  simp [encRules_eq, encRule_eq, encCal_eq, encInts_eq, ra, rb, rc, rs, rf, zr]
  repeat refine ⟨by first | omega | assumption | decide | (simp only [maxLen]; omega) | (intros; omega), ?_⟩
  refine hK _ ?_
  clear hK K
  -- region 1
  refine AWp.rseq E_ok [0, 1, 2, 3, 4, 5, 6, 7, 8, 9, 10, 11, 13, 14, 15, 16, 17, 18, 20, 58] fun K hK => ?_
  simp [encRules_eq, encRule_eq, encCal_eq, encInts_eq, ra, rb, rc, rs, rf, zr]
  repeat refine ⟨by first | omega | assumption | decide | (simp only [maxLen]; omega) | (intros; omega), ?_⟩
  refine hK _ ?_
  clear hK K
  -- region 2
  refine AWp.rseq E_ok [0, 1, 2, 3, 4, 5, 6, 7, 8, 9, 10, 11, 13, 14, 15, 16, 17, 18, 20, 58] fun K hK => ?_
  simp [encRules_eq, encRule_eq, encCal_eq, encInts_eq, ra, rb, rc, rs, rf, zr]
  repeat refine ⟨by first | omega | assumption | decide | (simp only [maxLen]; omega) | (intros; omega), ?_⟩
  refine hK _ ?_
  clear hK K
  -- region 3
  refine AWp.rseq E_ok [0, 1, 2, 3, 4, 5, 6, 7, 8, 9, 10, 11, 13, 14, 15, 16, 17, 18, 20, 58] fun K hK => ?_
  simp [encRules_eq, encRule_eq, encCal_eq, encInts_eq, ra, rb, rc, rs, rf, zr]
  repeat refine ⟨by first | omega | assumption | decide | (simp only [maxLen]; omega) | (intros; omega), ?_⟩
  refine hK _ ?_
  clear hK K
  -- region 4
  refine AWp.rseq E_ok [0, 1, 2, 3, 4, 5, 6, 7, 8, 9, 10, 11, 13, 14, 15, 16, 17, 18, 20, 58] fun K hK => ?_
  simp [encRules_eq, encRule_eq, encCal_eq, encInts_eq, ra, rb, rc, rs, rf, zr]
  repeat refine ⟨by first | omega | assumption | decide | (simp only [maxLen]; omega) | (intros; omega), ?_⟩
  refine hK _ ?_
  clear hK K
  -- region 5
  refine AWp.rseq E_ok [0, 1, 2, 3, 4, 5, 6, 7, 8, 9, 10, 11, 13, 14, 15, 16, 17, 18, 20, 58] fun K hK => ?_
  simp [encRules_eq, encRule_eq, encCal_eq, encInts_eq, ra, rb, rc, rs, rf, zr]
  repeat refine ⟨by first | omega | assumption | decide | (simp only [maxLen]; omega) | (intros; omega), ?_⟩
  refine meet.of (policy_Find_x) ?_
  simp [encRules_eq, encRule_eq, encCal_eq, encInts_eq, ra, rb, rc, rs, rf, zr]
  repeat refine ⟨by first | omega | assumption | decide | (simp only [maxLen]; omega) | (intros; omega), ?_⟩
  refine hK _ ?_
  clear hK K
  -- region 6
  refine AWp.rseq E_ok [0, 1, 2, 3, 4, 5, 6, 7, 8, 9, 10, 11, 13, 14, 15, 16, 17, 18, 20, 58] fun K hK => ?_
  simp [encRules_eq, encRule_eq, encCal_eq, encInts_eq, ra, rb, rc, rs, rf, zr]
  repeat refine ⟨by first | omega | assumption | decide | (simp only [maxLen]; omega) | (intros; omega), ?_⟩
  refine meet.of (policy_Find_y) ?_
  simp [encRules_eq, encRule_eq, encCal_eq, encInts_eq, ra, rb, rc, rs, rf, zr]
  repeat refine ⟨by first | omega | assumption | decide | (simp only [maxLen]; omega) | (intros; omega), ?_⟩
  refine hK _ ?_
  clear hK K
  refine AWp.seq ?_
  -- region 7
  refine AWp.rseq E_ok [0, 1, 2, 3, 4, 5, 6, 7, 8, 9, 10, 11, 13, 14, 15, 16, 17, 18, 20, 58] fun K hK => ?_
  simp [encRules_eq, encRule_eq, encCal_eq, encInts_eq, ra, rb, rc, rs, rf, zr]
  repeat refine ⟨by first | omega | assumption | decide | (simp only [maxLen]; omega) | (intros; omega), ?_⟩
  refine meet.of (policy_Right_x) ?_
  simp [encRules_eq, encRule_eq, encCal_eq, encInts_eq, ra, rb, rc, rs, rf, zr]
  repeat refine ⟨by first | omega | assumption | decide | (simp only [maxLen]; omega) | (intros; omega), ?_⟩
  refine hK _ ?_
  clear hK K
  refine AWp.cond rfl (fun h58 => ?_) (fun h58 => ?_)
  · exact absurd h58 (by simp)
  · try simp at h58
    refine AWp.skip ?_
    repeat first | refine thenN ?_ | refine thenX ?_ | refine thenR ?_ | refine blockN ?_ | refine blockR ?_ | refine blockX ?_ | refine blockM rfl ?_
    -- region 9
    refine AWp.rseq E_ok [0, 1, 2, 3, 4, 5, 6, 7, 8, 9, 10, 11, 13, 14, 15, 16, 17, 18, 20, 58] fun K hK => ?_
    simp [encRules_eq, encRule_eq, encCal_eq, encInts_eq, ra, rb, rc, rs, rf, zr]
    repeat refine ⟨by first | omega | assumption | decide | (simp only [maxLen]; omega) | (intros; omega), ?_⟩
    refine meet.of (policy_Due_x ra ⟨0, []⟩ 100 1000 114 0 (by decide +kernel) (by decide +kernel)) ?_
    simp [encRules_eq, encRule_eq, encCal_eq, encInts_eq, ra, rb, rc, rs, rf, zr]
    repeat refine ⟨by first | omega | assumption | decide | (simp only [maxLen]; omega) | (intros; omega), ?_⟩
    refine hK _ ?_
    clear hK K
    -- region 10
    refine AWp.rseq E_ok [0, 1, 2, 3, 4, 5, 6, 7, 8, 9, 10, 11, 13, 14, 15, 16, 17, 18, 20, 58] fun K hK => ?_
    simp [encRules_eq, encRule_eq, encCal_eq, encInts_eq, ra, rb, rc, rs, rf, zr]
    repeat refine ⟨by first | omega | assumption | decide | (simp only [maxLen]; omega) | (intros; omega), ?_⟩
    refine hK _ ?_
    clear hK K
    -- region 11
    refine AWp.rseq E_ok [0, 1, 2, 3, 4, 5, 6, 7, 8, 9, 10, 11, 13, 14, 15, 16, 17, 18, 20, 58] fun K hK => ?_
    simp [encRules_eq, encRule_eq, encCal_eq, encInts_eq, ra, rb, rc, rs, rf, zr]
    repeat refine ⟨by first | omega | assumption | decide | (simp only [maxLen]; omega) | (intros; omega), ?_⟩
    refine hK _ ?_
    clear hK K
    -- region 12
    refine AWp.rseq E_ok [0, 1, 2, 3, 4, 5, 6, 7, 8, 9, 10, 11, 13, 14, 15, 16, 17, 18, 20, 58] fun K hK => ?_
    simp [encRules_eq, encRule_eq, encCal_eq, encInts_eq, ra, rb, rc, rs, rf, zr]
    repeat refine ⟨by first | omega | assumption | decide | (simp only [maxLen]; omega) | (intros; omega), ?_⟩
    refine meet.of (policy_Due_x rf ⟨0, []⟩ 100 1000 0 15 (by decide +kernel) (by decide +kernel)) ?_
    simp [encRules_eq, encRule_eq, encCal_eq, encInts_eq, ra, rb, rc, rs, rf, zr]
    repeat refine ⟨by first | omega | assumption | decide | (simp only [maxLen]; omega) | (intros; omega), ?_⟩
    refine hK _ ?_
    clear hK K
    -- region 13
    refine AWp.rseq E_ok [0, 1, 2, 3, 4, 5, 6, 7, 8, 9, 10, 11, 13, 14, 15, 16, 17, 18, 20, 58] fun K hK => ?_
    simp [encRules_eq, encRule_eq, encCal_eq, encInts_eq, ra, rb, rc, rs, rf, zr]
    repeat refine ⟨by first | omega | assumption | decide | (simp only [maxLen]; omega) | (intros; omega), ?_⟩
    refine hK _ ?_
    clear hK K
    -- region 14
    refine AWp.rseq E_ok [0, 1, 2, 3, 4, 5, 6, 7, 8, 9, 10, 11, 13, 14, 15, 16, 17, 18, 20, 58] fun K hK => ?_
    simp [encRules_eq, encRule_eq, encCal_eq, encInts_eq, ra, rb, rc, rs, rf, zr]
    repeat refine ⟨by first | omega | assumption | decide | (simp only [maxLen]; omega) | (intros; omega), ?_⟩
    refine meet.of (policy_Due_x rs ⟨64, []⟩ 0 1000 7 0 (by decide +kernel) (by decide +kernel)) ?_
    simp [encRules_eq, encRule_eq, encCal_eq, encInts_eq, ra, rb, rc, rs, rf, zr]
    repeat refine ⟨by first | omega | assumption | decide | (simp only [maxLen]; omega) | (intros; omega), ?_⟩
    refine hK _ ?_
    clear hK K
    -- region 15
    refine AWp.rseq E_ok [0, 1, 2, 3, 4, 5, 6, 7, 8, 9, 10, 11, 13, 14, 15, 16, 17, 18, 20, 58] fun K hK => ?_
    simp [encRules_eq, encRule_eq, encCal_eq, encInts_eq, ra, rb, rc, rs, rf, zr]
    repeat refine ⟨by first | omega | assumption | decide | (simp only [maxLen]; omega) | (intros; omega), ?_⟩
    refine meet.of (policy_Due_x rs ⟨64, []⟩ 0 6 5 0 (by decide +kernel) (by decide +kernel)) ?_
    simp [encRules_eq, encRule_eq, encCal_eq, encInts_eq, ra, rb, rc, rs, rf, zr]
    repeat refine ⟨by first | omega | assumption | decide | (simp only [maxLen]; omega) | (intros; omega), ?_⟩
    refine hK _ ?_
    clear hK K
    -- region 16
    refine AWp.rseq E_ok [0, 1, 2, 3, 4, 5, 6, 7, 8, 9, 10, 11, 13, 14, 15, 16, 17, 18, 20, 58] fun K hK => ?_
    simp [encRules_eq, encRule_eq, encCal_eq, encInts_eq, ra, rb, rc, rs, rf, zr]
    repeat refine ⟨by first | omega | assumption | decide | (simp only [maxLen]; omega) | (intros; omega), ?_⟩
    refine meet.of (policy_Renew_x) ?_
    simp [encRules_eq, encRule_eq, encCal_eq, encInts_eq, ra, rb, rc, rs, rf, zr]
    repeat refine ⟨by first | omega | assumption | decide | (simp only [maxLen]; omega) | (intros; omega), ?_⟩
    refine hK _ ?_
    clear hK K
    -- region 17
    refine AWp.rseq E_ok [0, 1, 2, 3, 4, 5, 6, 7, 8, 9, 10, 11, 13, 14, 15, 16, 17, 18, 20, 58] fun K hK => ?_
    simp [encRules_eq, encRule_eq, encCal_eq, encInts_eq, ra, rb, rc, rs, rf, zr]
    repeat refine ⟨by first | omega | assumption | decide | (simp only [maxLen]; omega) | (intros; omega), ?_⟩
    refine meet.of (policy_Hidden_x) ?_
    simp [encRules_eq, encRule_eq, encCal_eq, encInts_eq, ra, rb, rc, rs, rf, zr]
    repeat refine ⟨by first | omega | assumption | decide | (simp only [maxLen]; omega) | (intros; omega), ?_⟩
    refine hK _ ?_
    clear hK K
    refine AWp.ret ?_
    repeat first | refine thenN ?_ | refine thenX ?_ | refine thenR ?_ | refine blockN ?_ | refine blockR ?_ | refine blockX ?_ | refine blockM rfl ?_
    simp [RetOk, RV]
end Go.Proofs.Ytkdcnpdjmkoicaa

set_option maxRecDepth 100000
set_option linter.unusedSimpArgs false
set_option linter.unusedVariables false
namespace Go.Proofs.Ytkdcnpdjmkoicaa
open Go Ab Lib
theorem law27_PolicyRights (l : List Rule) : ACalls E.P 3 [encRules l] (.d (.bool true)) := by
  refine ACalls.intro E_ok Try.func3 rfl rfl Try.ntmps3 Try.results3 (Nat.le_of_ble_eq_true rfl) fun hok base S0 w0 => ?_
  -- region 0
  refine AWp.rseq E_ok [0, 2] fun K hK => ?_
  simp [encRules_eq]
  repeat refine ⟨by first | omega | assumption | decide | (simp only [maxLen]; omega) | (intros; omega), ?_⟩
  refine hK _ ?_
  clear hK K
  -- region 1
  refine AWp.rseq E_ok [0, 2] fun K hK => ?_
  simp [encRules_eq]
  repeat refine ⟨by first | omega | assumption | decide | (simp only [maxLen]; omega) | (intros; omega), ?_⟩
  refine meet.of (policy_Right l) ?_
  simp [encRules_eq]
  repeat refine ⟨by first | omega | assumption | decide | (simp only [maxLen]; omega) | (intros; omega), ?_⟩
  refine meet.of (ref27_Right l) ?_
  simp [encRules_eq]
  repeat refine ⟨by first | omega | assumption | decide | (simp only [maxLen]; omega) | (intros; omega), ?_⟩
  refine meet.of (law27_alive) ?_
  simp [encRules_eq]
  repeat refine ⟨by first | omega | assumption | decide | (simp only [maxLen]; omega) | (intros; omega), ?_⟩
  refine hK _ ?_
  clear hK K
  refine AWp.ret ?_
  repeat first | refine thenN ?_ | refine thenX ?_ | refine thenR ?_ | refine blockN ?_ | refine blockR ?_ | refine blockX ?_ | refine blockM rfl ?_
  simp [RetOk, RV]
end Go.Proofs.Ytkdcnpdjmkoicaa

set_option maxRecDepth 100000
set_option linter.unusedSimpArgs false
set_option linter.unusedVariables false
namespace Go.Proofs.Ytkdcnpdjmkoicaa
open Go Ab Lib
theorem ref27_Find (l : List Rule) (q : Qry) : ACalls E.P 17 [encRules l, .int .i64 q.p, .int .i64 q.i, .int .i64 q.b] (.tup [encRule (findR l q), .bool (foundR l q)]) := by
  refine ACalls.intro E_ok Try.func17 rfl rfl Try.ntmps17 Try.results17 (Nat.le_of_ble_eq_true rfl) fun hok base S0 w0 => ?_
  have hb := bestR_rng l q
  -- region 0
  refine AWp.rseq E_ok [0, 1, 2, 3, 8, 9, 10, 17] fun K hK => ?_
  simp [encRules_eq]
  repeat refine ⟨by first | omega | assumption | decide | (simp only [maxLen]; omega) | (intros; omega), ?_⟩
  refine hK _ ?_
  clear hK K
  -- region 1
  refine AWp.rseq E_ok [0, 1, 2, 3, 8, 9, 10, 17] fun K hK => ?_
  simp [encRules_eq]
  repeat refine ⟨by first | omega | assumption | decide | (simp only [maxLen]; omega) | (intros; omega), ?_⟩
  refine meet.of (ref27_place l q) ?_
  simp [encRules_eq]
  repeat refine ⟨by first | omega | assumption | decide | (simp only [maxLen]; omega) | (intros; omega), ?_⟩
  refine hK _ ?_
  clear hK K
  refine AWp.seq ?_
  -- region 2
  refine AWp.rseq E_ok [0, 1, 2, 3, 8, 9, 10, 17] fun K hK => ?_
  simp [encRules_eq]
  repeat refine ⟨by first | omega | assumption | decide | (simp only [maxLen]; omega) | (intros; omega), ?_⟩
  refine hK _ ?_
  clear hK K
  refine AWp.cond rfl (fun h17 => ?_) (fun h17 => ?_)
  · try simp at h17
    -- region 3
    refine AWp.rseq E_ok [0, 1, 2, 3, 8, 9, 10, 17] fun K hK => ?_
    simp [encRules_eq, h17]
    repeat refine ⟨by first | omega | assumption | decide | (simp only [maxLen]; omega) | (intros; omega), ?_⟩
    refine hK _ ?_
    clear hK K
    refine AWp.ret ?_
    repeat first | refine thenN ?_ | refine thenX ?_ | refine thenR ?_ | refine blockN ?_ | refine blockR ?_ | refine blockX ?_ | refine blockM rfl ?_
    first | (simp [RetOk, RV, RVs, encRule_eq, findR, foundR, h17, zr]; done) | (rw [find_some h17, found_some h17]; simp [RetOk, RV, RVs, encRule_eq, hj, hy1])
  · try simp at h17
    obtain ⟨j, hj⟩ : ∃ j : Nat, bestR l q = (j : Int) := ⟨(bestR l q).toNat, by omega⟩
    have hjl : j < l.length := by omega
    obtain ⟨y, hy1, hy2, _⟩ := at_indexG (l := l) (k := j) hjl
    refine AWp.skip ?_
    repeat first | refine thenN ?_ | refine thenX ?_ | refine thenR ?_ | refine blockN ?_ | refine blockR ?_ | refine blockX ?_ | refine blockM rfl ?_
    -- region 4
    refine AWp.rseq E_ok [0, 1, 2, 3, 8, 9, 10, 17] fun K hK => ?_
    simp [encRules_eq, h17, hj, hy1, hy2, hjl]
    repeat refine ⟨by first | omega | assumption | decide | (simp only [maxLen]; omega) | (intros; omega), ?_⟩
    refine hK _ ?_
    clear hK K
    refine AWp.ret ?_
    repeat first | refine thenN ?_ | refine thenX ?_ | refine thenR ?_ | refine blockN ?_ | refine blockR ?_ | refine blockX ?_ | refine blockM rfl ?_
    first | (simp [RetOk, RV, RVs, encRule_eq, findR, foundR, h17, zr]; done) | (rw [find_some h17, found_some h17]; simp [RetOk, RV, RVs, encRule_eq, hj, hy1])
end Go.Proofs.Ytkdcnpdjmkoicaa

set_option maxRecDepth 100000
set_option linter.unusedSimpArgs false
set_option linter.unusedVariables false
namespace Go.Proofs.Ytkdcnpdjmkoicaa
open Go Ab Lib
theorem law27_PolicyFinds (l : List Rule) (r : Rule) (q : Qry) : ACalls E.P 4 [encRules l, encRule r, encQry q] (.d (.bool true)) := by
  refine ACalls.intro E_ok Try.func4 rfl rfl Try.ntmps4 Try.results4 (Nat.le_of_ble_eq_true rfl) fun hok base S0 w0 => ?_
  -- region 0
  refine AWp.rseq E_ok [0, 1, 2, 4, 5, 6, 7, 8, 9, 10, 27, 35] fun K hK => ?_
  simp [encRules_eq, encRule_eq, encQry_eq]
  repeat refine ⟨by first | omega | assumption | decide | (simp only [maxLen]; omega) | (intros; omega), ?_⟩
  refine hK _ ?_
  clear hK K
  refine AWp.seq ?_
  -- region 1
  refine AWp.rseqQ E_ok mixed [0, 1, 2, 4, 5, 6, 7, 8, 9, 10, 27, 35] (by kernel_rfl) fun K hK => ?_
  simp [encRules_eq, encRule_eq, encQry_eq]
  repeat refine ⟨by first | omega | assumption | decide | (simp only [maxLen]; omega) | (intros; omega), ?_⟩
  refine meet.of (policy_Fits r q) ?_
  simp [encRules_eq, encRule_eq, encQry_eq]
  repeat refine ⟨by first | omega | assumption | decide | (simp only [maxLen]; omega) | (intros; omega), ?_⟩
  refine meet.of (ref27_Fits r q) ?_
  simp [encRules_eq, encRule_eq, encQry_eq]
  repeat refine ⟨by first | omega | assumption | decide | (simp only [maxLen]; omega) | (intros; omega), ?_⟩
  refine hK _ ?_
  clear hK K
  refine AWp.cond rfl (fun h27 => ?_) (fun h27 => ?_)
  · exact absurd h27 (by simp)
  · try simp at h27
    refine AWp.skip ?_
    repeat first | refine thenN ?_ | refine thenX ?_ | refine thenR ?_ | refine blockN ?_ | refine blockR ?_ | refine blockX ?_ | refine blockM rfl ?_
    refine AWp.seq ?_
    -- region 3
    refine AWp.rseq E_ok [0, 1, 2, 4, 5, 6, 7, 8, 9, 10, 27, 35] fun K hK => ?_
    simp [encRules_eq, encRule_eq, encQry_eq]
    repeat refine ⟨by first | omega | assumption | decide | (simp only [maxLen]; omega) | (intros; omega), ?_⟩
    refine meet.of (ref27_Right l) ?_
    simp [encRules_eq, encRule_eq, encQry_eq]
    repeat refine ⟨by first | omega | assumption | decide | (simp only [maxLen]; omega) | (intros; omega), ?_⟩
    refine hK _ ?_
    clear hK K
    refine AWp.cond rfl (fun h35 => ?_) (fun h35 => ?_)
    · try simp at h35
      -- region 4
      refine AWp.rseq E_ok [0, 1, 2, 4, 5, 6, 7, 8, 9, 10, 27, 35] fun K hK => ?_
      simp [encRules_eq, encRule_eq, encQry_eq, h35]
      repeat refine ⟨by first | omega | assumption | decide | (simp only [maxLen]; omega) | (intros; omega), ?_⟩
      refine meet.of (law27_alive) ?_
      simp [encRules_eq, encRule_eq, encQry_eq, h35]
      repeat refine ⟨by first | omega | assumption | decide | (simp only [maxLen]; omega) | (intros; omega), ?_⟩
      refine hK _ ?_
      clear hK K
      refine AWp.ret ?_
      repeat first | refine thenN ?_ | refine thenX ?_ | refine thenR ?_ | refine blockN ?_ | refine blockR ?_ | refine blockX ?_ | refine blockM rfl ?_
      simp [RetOk, RV]
    · try simp at h35
      refine AWp.skip ?_
      repeat first | refine thenN ?_ | refine thenX ?_ | refine thenR ?_ | refine blockN ?_ | refine blockR ?_ | refine blockX ?_ | refine blockM rfl ?_
      -- region 5
      refine AWp.rseq E_ok [0, 1, 2, 4, 5, 6, 7, 8, 9, 10, 27, 35] fun K hK => ?_
      simp [encRules_eq, encRule_eq, encQry_eq, h35]
      repeat refine ⟨by first | omega | assumption | decide | (simp only [maxLen]; omega) | (intros; omega), ?_⟩
      refine meet.of (policy_Find l q) ?_
      simp [encRules_eq, encRule_eq, encQry_eq, h35]
      repeat refine ⟨by first | omega | assumption | decide | (simp only [maxLen]; omega) | (intros; omega), ?_⟩
      refine hK _ ?_
      clear hK K
      -- region 6
      refine AWp.rseq E_ok [0, 1, 2, 4, 5, 6, 7, 8, 9, 10, 27, 35] fun K hK => ?_
      simp [encRules_eq, encRule_eq, encQry_eq, h35]
      repeat refine ⟨by first | omega | assumption | decide | (simp only [maxLen]; omega) | (intros; omega), ?_⟩
      refine meet.of (ref27_Find l q) ?_
      simp [encRules_eq, encRule_eq, encQry_eq, h35]
      repeat refine ⟨by first | omega | assumption | decide | (simp only [maxLen]; omega) | (intros; omega), ?_⟩
      refine hK _ ?_
      clear hK K
      -- region 7
      refine AWp.rseq E_ok [0, 1, 2, 4, 5, 6, 7, 8, 9, 10, 27, 35] fun K hK => ?_
      simp [encRules_eq, encRule_eq, encQry_eq, h35]
      repeat refine ⟨by first | omega | assumption | decide | (simp only [maxLen]; omega) | (intros; omega), ?_⟩
      refine meet.of (law27_alive) ?_
      simp [encRules_eq, encRule_eq, encQry_eq, h35]
      repeat refine ⟨by first | omega | assumption | decide | (simp only [maxLen]; omega) | (intros; omega), ?_⟩
      refine hK _ ?_
      clear hK K
      refine AWp.ret ?_
      repeat first | refine thenN ?_ | refine thenX ?_ | refine thenR ?_ | refine blockN ?_ | refine blockR ?_ | refine blockX ?_ | refine blockM rfl ?_
      simp [RetOk, RV]
end Go.Proofs.Ytkdcnpdjmkoicaa

set_option maxRecDepth 100000
set_option linter.unusedSimpArgs false
set_option linter.unusedVariables false
namespace Go.Proofs.Ytkdcnpdjmkoicaa
open Go Ab Lib
theorem ref26_Right (c : Cal) : ACalls E.P 19 [encCal c] (.d (.int .i64 (calR c))) := by
  refine ACalls.intro E_ok Try.func19 rfl rfl Try.ntmps19 Try.results19 (Nat.le_of_ble_eq_true rfl) fun hok base S0 w0 => ?_
  have hl : c.closed.length ≤ 9223372036854775807 := cal_len (hok (encCal c) (by simp))
  -- region 0
  refine AWp.rseq E_ok [0, 1, 2, 3, 4, 12, 16, 21, 37, 42, 56] fun K hK => ?_
  simp [encCal_eq, encInts_eq]
  repeat refine ⟨by first | omega | assumption | decide | (simp only [maxLen]; omega) | (intros; omega), ?_⟩
  refine hK _ ?_
  clear hK K
  refine AWp.seq ?_
  -- region 1
  refine AWp.rseq E_ok [0, 1, 2, 3, 4, 12, 16, 21, 37, 42, 56] fun K hK => ?_
  simp [encCal_eq, encInts_eq]
  repeat refine ⟨by first | omega | assumption | decide | (simp only [maxLen]; omega) | (intros; omega), ?_⟩
  refine hK _ ?_
  clear hK K
  refine AWp.cond rfl (fun h12 => ?_) (fun h12 => ?_)
  · try simp at h12
    -- region 2
    refine AWp.rseq E_ok [0, 1, 2, 3, 4, 12, 16, 21, 37, 42, 56] fun K hK => ?_
    simp [encCal_eq, encInts_eq, h12]
    repeat refine ⟨by first | omega | assumption | decide | (simp only [maxLen]; omega) | (intros; omega), ?_⟩
    refine hK _ ?_
    clear hK K
    refine AWp.ret ?_
    repeat first | refine thenN ?_ | refine thenX ?_ | refine thenR ?_ | refine blockN ?_ | refine blockR ?_ | refine blockX ?_ | refine blockM rfl ?_
    first | (rw [cal1 (by omega)]; simp [RetOk, RV]; done) | (rw [cal13 (by omega) h16]; simp [RetOk, RV]; done) | (rw [cal2b (by omega) h16 (by simpa using hs.symm)]; simp [RetOk, RV]; done) | (rw [calAb (by omega) h16 hb]; simp [RetOk, RV, ← hs])
  · try simp at h12
    refine AWp.skip ?_
    repeat first | refine thenN ?_ | refine thenX ?_ | refine thenR ?_ | refine blockN ?_ | refine blockR ?_ | refine blockX ?_ | refine blockM rfl ?_
    refine AWp.seq ?_
    -- region 3
    refine AWp.rseq E_ok [0, 1, 2, 3, 4, 12, 16, 21, 37, 42, 56] fun K hK => ?_
    simp [encCal_eq, encInts_eq, h12]
    repeat refine ⟨by first | omega | assumption | decide | (simp only [maxLen]; omega) | (intros; omega), ?_⟩
    refine hK _ ?_
    clear hK K
    refine AWp.cond rfl (fun h16 => ?_) (fun h16 => ?_)
    · try simp at h16
      -- region 4
      refine AWp.rseq E_ok [0, 1, 2, 3, 4, 12, 16, 21, 37, 42, 56] fun K hK => ?_
      simp [encCal_eq, encInts_eq, h12, h16]
      repeat refine ⟨by first | omega | assumption | decide | (simp only [maxLen]; omega) | (intros; omega), ?_⟩
      refine hK _ ?_
      clear hK K
      refine AWp.ret ?_
      repeat first | refine thenN ?_ | refine thenX ?_ | refine thenR ?_ | refine blockN ?_ | refine blockR ?_ | refine blockX ?_ | refine blockM rfl ?_
      first | (rw [cal1 (by omega)]; simp [RetOk, RV]; done) | (rw [cal13 (by omega) h16]; simp [RetOk, RV]; done) | (rw [cal2b (by omega) h16 (by simpa using hs.symm)]; simp [RetOk, RV]; done) | (rw [calAb (by omega) h16 hb]; simp [RetOk, RV, ← hs])
    · try simp at h16
      refine AWp.skip ?_
      repeat first | refine thenN ?_ | refine thenX ?_ | refine thenR ?_ | refine blockN ?_ | refine blockR ?_ | refine blockX ?_ | refine blockM rfl ?_
      refine AWp.seq ?_
      -- region 5
      refine AWp.rseq E_ok [0, 1, 2, 3, 4, 12, 16, 21, 37, 42, 56] fun K hK => ?_
      simp [encCal_eq, encInts_eq, h12, h16]
      repeat refine ⟨by first | omega | assumption | decide | (simp only [maxLen]; omega) | (intros; omega), ?_⟩
      refine hK _ ?_
      clear hK K
      refine AWp.block ?_
      refine AWp.range (l := c.closed) (F := badF) (tot := badF () c.closed) (fun k y => match y with | u => True) (fun k y => match y with | u => [(0, T.val (D.agg [D.int IntKind.i64 c.week, (D.int IntKind.i64 0).slice (List.map (D.int IntKind.i64) c.closed)])), (1, T.box [C.d (D.int IntKind.i64 c.week), C.d ((D.int IntKind.i64 0).slice (List.map (D.int IntKind.i64) c.closed))]), (3, T.val (.int .i64 k))]) () ?_ rfl ?_ ?_
      · simp [Weak, TW, encCal_eq, encInts_eq]
      · first | exact trivial | (simp; omega) | simp
      rintro k u hk hs hi
      try simp only at hi
      refine AWp.seq ?_
      -- region 6
      refine AWp.rseq E_ok [0, 1, 2, 3, 4, 12, 16, 21, 37, 42, 56] fun K hK => ?_
      simp [encCal_eq, encInts_eq, h12, h16]
      repeat refine ⟨by first | omega | assumption | decide | (simp only [maxLen]; omega) | (intros; omega), ?_⟩
      refine hK _ ?_
      clear hK K
      refine AWp.cond rfl (fun h21 => ?_) (fun h21 => ?_)
      · try simp at h21
        obtain ⟨x, hx, hxx, hd⟩ := at_indexG (l := c.closed) h21
        rw [hd] at hs
        refine AWp.skip ?_
        repeat first | refine thenN ?_ | refine thenX ?_ | refine thenR ?_ | refine blockN ?_ | refine blockR ?_ | refine blockX ?_ | refine blockM rfl ?_
        refine AWp.seq ?_
        refine AWp.block ?_
        -- region 8
        refine AWp.rseq E_ok [0, 1, 2, 3, 4, 12, 16, 21, 37, 42, 56] fun K hK => ?_
        simp [encCal_eq, encInts_eq, h12, h16, h21, hx, hxx]
        repeat refine ⟨by first | omega | assumption | decide | (simp only [maxLen]; omega) | (intros; omega), ?_⟩
        refine hK _ ?_
        clear hK K
        refine AWp.cond rfl (fun h37 => ?_) (fun h37 => ?_)
        · try simp at h37
          have hc : isDay x = false := by simp [isDay]; omega
          -- region 9
          refine AWp.rseq E_ok [0, 1, 2, 3, 4, 12, 16, 21, 37, 42, 56] fun K hK => ?_
          simp [encCal_eq, encInts_eq, h12, h16, h21, hx, hxx, h37]
          repeat refine ⟨by first | omega | assumption | decide | (simp only [maxLen]; omega) | (intros; omega), ?_⟩
          refine hK _ ?_
          clear hK K
          refine AWp.ret ?_
          repeat first | refine thenN ?_ | refine thenX ?_ | refine thenR ?_ | refine blockN ?_ | refine blockR ?_ | refine blockX ?_ | refine blockM rfl ?_
          first | simp [badF, hc] at hs | simp [badF] at hs
          first | (rw [cal1 (by omega)]; simp [RetOk, RV]; done) | (rw [cal13 (by omega) h16]; simp [RetOk, RV]; done) | (rw [cal2b (by omega) h16 (by simpa using hs.symm)]; simp [RetOk, RV]; done) | (rw [calAb (by omega) h16 hb]; simp [RetOk, RV, ← hs])
        · try simp at h37
          have hc : isDay x = true := by simp [isDay]; omega
          refine AWp.skip ?_
          repeat first | refine thenN ?_ | refine thenX ?_ | refine thenR ?_ | refine blockN ?_ | refine blockR ?_ | refine blockX ?_ | refine blockM rfl ?_
          -- region 7
          refine AWp.rend E_ok [0, 1, 2, 3, 4, 12, 16, 21, 37, 42, 56] fun K hK => ?_
          simp [encCal_eq, encInts_eq, h12, h16, h21, hx, hxx, h37]
          repeat refine ⟨by first | omega | assumption | decide | (simp only [maxLen]; omega) | (intros; omega), ?_⟩
          refine hK _ ?_
          clear hK K
          repeat first | refine thenN ?_ | refine thenX ?_ | refine thenR ?_ | refine blockN ?_ | refine blockR ?_ | refine blockX ?_ | refine blockM rfl ?_
          have hw : IntKind.i64.wrap ((k : Int) + 1) = (k : Int) + 1 := by rw [wrap_i64] <;> omega
          simp [badF, hc] at hs
          refine ⟨_, h21, hs, ?_, ?_⟩
          · first | exact trivial | (simp; omega) | simp
          · simp [Weak, TW, hw, encCal_eq, encInts_eq]
      · try simp at h21
        have hb : badF () c.closed = false := by have e1 : c.closed.drop k = [] := List.drop_eq_nil_of_le (by omega); rw [e1] at hs; simpa [badF] using hs.symm
        obtain rfl : k = c.closed.length := by omega
        simp [badF] at hs
        refine AWp.exit ?_
        repeat first | refine thenN ?_ | refine thenX ?_ | refine thenR ?_ | refine blockN ?_ | refine blockR ?_ | refine blockX ?_ | refine blockM rfl ?_
        refine AWp.seq ?_
        -- region 10
        clear hs hi hk
        refine AWp.rseq E_ok [0, 1, 2, 3, 4, 12, 16, 21, 37, 42, 56] fun K hK => ?_
        simp [encCal_eq, encInts_eq, h12, h16, h21]
        repeat refine ⟨by first | omega | assumption | decide | (simp only [maxLen]; omega) | (intros; omega), ?_⟩
        refine hK _ ?_
        clear hK K
        refine AWp.block ?_
        refine AWp.range (l := c.closed.tail) (F := ascF) (tot := ascF c.closed.head? c.closed.tail) (fun k y => match y with | pr => pr = c.closed[k]?) (fun k y => match y with | pr => [(0, T.val (D.agg [D.int IntKind.i64 c.week, (D.int IntKind.i64 0).slice (List.map (D.int IntKind.i64) c.closed)])), (1, T.box [C.d (D.int IntKind.i64 c.week), C.d ((D.int IntKind.i64 0).slice (List.map (D.int IntKind.i64) c.closed))]), (4, T.val (.int .i64 ((k : Int) + 1)))]) (c.closed.head?) ?_ rfl ?_ ?_
        · simp [Weak, TW, encCal_eq, encInts_eq]
        · first | (simp; done) | (simp [hx']; done) | (simp [List.head?_eq_getElem?])
        rintro k pr hk hs hi
        try simp only at hi
        refine AWp.seq ?_
        -- region 11
        refine AWp.rseq E_ok [0, 1, 2, 3, 4, 12, 16, 21, 37, 42, 56] fun K hK => ?_
        simp [encCal_eq, encInts_eq, h12, h16, h21]
        repeat refine ⟨by first | omega | assumption | decide | (simp only [maxLen]; omega) | (intros; omega), ?_⟩
        refine hK _ ?_
        clear hK K
        refine AWp.cond rfl (fun h42 => ?_) (fun h42 => ?_)
        · try simp at h42
          have hlt : k < c.closed.tail.length := by simp; omega
          obtain ⟨x, hx, hxx, hd⟩ := at_indexG (l := c.closed.tail) hlt
          rw [hd] at hs
          refine AWp.skip ?_
          repeat first | refine thenN ?_ | refine thenX ?_ | refine thenR ?_ | refine blockN ?_ | refine blockR ?_ | refine blockX ?_ | refine blockM rfl ?_
          refine AWp.seq ?_
          refine AWp.block ?_
          -- region 13
          have hx' : c.closed[k + 1]? = some x := by rw [← List.getElem?_tail]; exact hx
          have hx3 : c.closed[k + 1]'(by omega) = x := (List.getElem?_eq_some_iff.1 hx').2
          obtain ⟨y, hy1, hy2, _⟩ := at_indexG (l := c.closed) (k := k) (by omega)
          have hj0 : IntKind.i64.wrap (k : Int) = (k : Int) := by rw [wrap_i64] <;> omega
          have hj1 : k < c.closed.length := by omega
          rw [hi, hy1] at hs
          refine AWp.rseqQ E_ok mixed [0, 1, 2, 3, 4, 12, 16, 21, 37, 42, 56] (by kernel_rfl) fun K hK => ?_
          simp [encCal_eq, encInts_eq, h12, h16, h21, h42, hx', hx3, hy1, hy2, hj0, hj1, hx, hxx]
          repeat refine ⟨by first | omega | assumption | decide | (simp only [maxLen]; omega) | (intros; omega), ?_⟩
          refine hK _ ?_
          clear hK K
          refine AWp.cond rfl (fun h56 => ?_) (fun h56 => ?_)
          · try simp at h56
            have hlo : lowId (some y) x = true := by simpa [lowId] using h56
            simp [ascF, hlo] at hs
            -- region 14
            refine AWp.rseq E_ok [0, 1, 2, 3, 4, 12, 16, 21, 37, 42, 56] fun K hK => ?_
            simp [encCal_eq, encInts_eq, h12, h16, h21, h42, hx', hx3, hy1, hy2, hj0, hj1, hx, hxx, h56]
            repeat refine ⟨by first | omega | assumption | decide | (simp only [maxLen]; omega) | (intros; omega), ?_⟩
            refine hK _ ?_
            clear hK K
            refine AWp.ret ?_
            repeat first | refine thenN ?_ | refine thenX ?_ | refine thenR ?_ | refine blockN ?_ | refine blockR ?_ | refine blockX ?_ | refine blockM rfl ?_
            first | (rw [cal1 (by omega)]; simp [RetOk, RV]; done) | (rw [cal13 (by omega) h16]; simp [RetOk, RV]; done) | (rw [cal2b (by omega) h16 (by simpa using hs.symm)]; simp [RetOk, RV]; done) | (rw [calAb (by omega) h16 hb]; simp [RetOk, RV, ← hs])
          · try simp at h56
            have hlo : lowId (some y) x = false := by simpa [lowId] using h56
            have hw1 : IntKind.i64.wrap ((k : Int) + 1 + 1) = (k : Int) + 1 + 1 := by rw [wrap_i64] <;> omega
            refine AWp.skip ?_
            repeat first | refine thenN ?_ | refine thenX ?_ | refine thenR ?_ | refine blockN ?_ | refine blockR ?_ | refine blockX ?_ | refine blockM rfl ?_
            -- region 12
            refine AWp.rend E_ok [0, 1, 2, 3, 4, 12, 16, 21, 37, 42, 56] fun K hK => ?_
            simp [encCal_eq, encInts_eq, h12, h16, h21, h42, hx', hx3, hy1, hy2, hj0, hj1, hx, hxx, h56]
            repeat refine ⟨by first | omega | assumption | decide | (simp only [maxLen]; omega) | (intros; omega), ?_⟩
            refine hK _ ?_
            clear hK K
            repeat first | refine thenN ?_ | refine thenX ?_ | refine thenR ?_ | refine blockN ?_ | refine blockR ?_ | refine blockX ?_ | refine blockM rfl ?_
            have hw : IntKind.i64.wrap ((k : Int) + 1) = (k : Int) + 1 := by rw [wrap_i64] <;> omega
            simp [ascF, hlo] at hs
            have hs : ascF (some x) (c.closed.tail.drop (k + 1)) = ascF c.closed.head? c.closed.tail := by simpa using hs
            refine ⟨_, hlt, hs, ?_, ?_⟩
            · first | (simp; done) | (simp [hx']; done) | (simp [List.head?_eq_getElem?])
            · simp [Weak, TW, hw, encCal_eq, encInts_eq, hw1]
        · try simp at h42
          have hz : c.closed.tail.drop k = [] := List.drop_eq_nil_of_le (by simp; omega)
          rw [hz] at hs
          simp [ascF] at hs
          refine AWp.exit ?_
          repeat first | refine thenN ?_ | refine thenX ?_ | refine thenR ?_ | refine blockN ?_ | refine blockR ?_ | refine blockX ?_ | refine blockM rfl ?_
          -- region 15
          refine AWp.rseq E_ok [0, 1, 2, 3, 4, 12, 16, 21, 37, 42, 56] fun K hK => ?_
          simp [encCal_eq, encInts_eq, h12, h16, h21, h42]
          repeat refine ⟨by first | omega | assumption | decide | (simp only [maxLen]; omega) | (intros; omega), ?_⟩
          refine hK _ ?_
          clear hK K
          refine AWp.ret ?_
          repeat first | refine thenN ?_ | refine thenX ?_ | refine thenR ?_ | refine blockN ?_ | refine blockR ?_ | refine blockX ?_ | refine blockM rfl ?_
          first | (rw [cal1 (by omega)]; simp [RetOk, RV]; done) | (rw [cal13 (by omega) h16]; simp [RetOk, RV]; done) | (rw [cal2b (by omega) h16 (by simpa using hs.symm)]; simp [RetOk, RV]; done) | (rw [calAb (by omega) h16 hb]; simp [RetOk, RV, ← hs])
end Go.Proofs.Ytkdcnpdjmkoicaa

set_option maxRecDepth 100000
set_option linter.unusedSimpArgs false
set_option linter.unusedVariables false
namespace Go.Proofs.Ytkdcnpdjmkoicaa
open Go Ab Lib
theorem ref03_Is (n : Int) : ACalls E.P 58 [.int .i64 n] (.d (.bool (isDay n))) := by
  refine ACalls.intro E_ok Try.func58 rfl rfl Try.ntmps58 Try.results58 (Nat.le_of_ble_eq_true rfl) fun hok base S0 w0 => ?_
  -- region 0
  refine AWp.rseq E_ok [0, 2] fun K hK => ?_
  simp
  repeat refine ⟨by first | omega | assumption | decide | (simp only [maxLen]; omega) | (intros; omega), ?_⟩
  refine hK _ ?_
  clear hK K
  -- region 1
  refine AWp.rseq E_ok [0, 2] fun K hK => ?_
  simp
  repeat refine ⟨by first | omega | assumption | decide | (simp only [maxLen]; omega) | (intros; omega), ?_⟩
  refine hK _ ?_
  clear hK K
  refine AWp.ret ?_
  repeat first | refine thenN ?_ | refine thenX ?_ | refine thenR ?_ | refine blockN ?_ | refine blockR ?_ | refine blockX ?_ | refine blockM rfl ?_
  simp [RetOk, RV, isDay]
end Go.Proofs.Ytkdcnpdjmkoicaa

set_option maxRecDepth 100000
set_option linter.unusedSimpArgs false
set_option linter.unusedVariables false
namespace Go.Proofs.Ytkdcnpdjmkoicaa
open Go Ab Lib
theorem ref03_Weekday (n : Int) : ACalls E.P 56 [.int .i64 n] (.d (.int .i64 (wday n))) := by
  refine ACalls.intro E_ok Try.func56 rfl rfl Try.ntmps56 Try.results56 (Nat.le_of_ble_eq_true rfl) fun hok base S0 w0 => ?_
  -- region 0
  refine AWp.rseq E_ok [0, 2, 5] fun K hK => ?_
  simp
  repeat refine ⟨by first | omega | assumption | decide | (simp only [maxLen]; omega) | (intros; omega), ?_⟩
  refine hK _ ?_
  clear hK K
  refine AWp.seq ?_
  -- region 1
  refine AWp.rseq E_ok [0, 2, 5] fun K hK => ?_
  simp
  repeat refine ⟨by first | omega | assumption | decide | (simp only [maxLen]; omega) | (intros; omega), ?_⟩
  refine meet.of (ref03_Is _) ?_
  simp
  repeat refine ⟨by first | omega | assumption | decide | (simp only [maxLen]; omega) | (intros; omega), ?_⟩
  refine hK _ ?_
  clear hK K
  refine AWp.cond rfl (fun h5 => ?_) (fun h5 => ?_)
  · try simp at h5
    -- region 2
    refine AWp.rseq E_ok [0, 2, 5] fun K hK => ?_
    simp [h5]
    repeat refine ⟨by first | omega | assumption | decide | (simp only [maxLen]; omega) | (intros; omega), ?_⟩
    refine hK _ ?_
    clear hK K
    refine AWp.ret ?_
    repeat first | refine thenN ?_ | refine thenX ?_ | refine thenR ?_ | refine blockN ?_ | refine blockR ?_ | refine blockX ?_ | refine blockM rfl ?_
    simp [RetOk, RV, wday, h5]
  · try simp at h5
    refine AWp.skip ?_
    repeat first | refine thenN ?_ | refine thenX ?_ | refine thenR ?_ | refine blockN ?_ | refine blockR ?_ | refine blockX ?_ | refine blockM rfl ?_
    -- region 3
    refine AWp.rseq E_ok [0, 2, 5] fun K hK => ?_
    simp [h5]
    repeat refine ⟨by first | omega | assumption | decide | (simp only [maxLen]; omega) | (intros; omega), ?_⟩
    refine hK _ ?_
    clear hK K
    refine AWp.ret ?_
    repeat first | refine thenN ?_ | refine thenX ?_ | refine thenR ?_ | refine blockN ?_ | refine blockR ?_ | refine blockX ?_ | refine blockM rfl ?_
    simp [RetOk, RV, wday, h5]
end Go.Proofs.Ytkdcnpdjmkoicaa

set_option maxRecDepth 100000
set_option linter.unusedSimpArgs false
set_option linter.unusedVariables false
namespace Go.Proofs.Ytkdcnpdjmkoicaa
open Go Ab Lib
theorem ref26_Open (c : Cal) (d : Int) (hcl : c.closed.length ≤ 1000000) : ACalls E.P 51 [encCal c, .int .i64 d] (.d (.bool (openR c d))) := by
  refine ACalls.intro E_ok Try.func51 rfl rfl Try.ntmps51 Try.results51 (Nat.le_of_ble_eq_true rfl) fun hok base S0 w0 => ?_
  -- region 0
  refine AWp.rseq E_ok [0, 1, 2, 4, 5, 6, 7, 8, 14, 21, 28, 33, 42] fun K hK => ?_
  simp [encCal_eq, encInts_eq]
  repeat refine ⟨by first | omega | assumption | decide | (simp only [maxLen]; omega) | (intros; omega), ?_⟩
  refine hK _ ?_
  clear hK K
  refine AWp.seq ?_
  -- region 1
  refine AWp.rseq E_ok [0, 1, 2, 4, 5, 6, 7, 8, 14, 21, 28, 33, 42] fun K hK => ?_
  simp [encCal_eq, encInts_eq]
  repeat refine ⟨by first | omega | assumption | decide | (simp only [maxLen]; omega) | (intros; omega), ?_⟩
  refine hK _ ?_
  clear hK K
  refine AWp.cond rfl (fun h14 => ?_) (fun h14 => ?_)
  · try simp at h14
    -- region 2
    refine AWp.rseq E_ok [0, 1, 2, 4, 5, 6, 7, 8, 14, 21, 28, 33, 42] fun K hK => ?_
    simp [encCal_eq, encInts_eq, h14]
    repeat refine ⟨by first | omega | assumption | decide | (simp only [maxLen]; omega) | (intros; omega), ?_⟩
    refine hK _ ?_
    clear hK K
    refine AWp.ret ?_
    repeat first | refine thenN ?_ | refine thenX ?_ | refine thenR ?_ | refine blockN ?_ | refine blockR ?_ | refine blockX ?_ | refine blockM rfl ?_
    first | (rw [openR_out h14]; simp [RetOk, RV]; done) | (rw [openR_week h14 h28]; simp [RetOk, RV]; done) | (rw [openR_in h14 h28]; simp [RetOk, RV, ← hs])
  · try simp at h14
    have hw7 := wday_rng h14.1 h14.2
    refine AWp.skip ?_
    repeat first | refine thenN ?_ | refine thenX ?_ | refine thenR ?_ | refine blockN ?_ | refine blockR ?_ | refine blockX ?_ | refine blockM rfl ?_
    -- region 3
    refine AWp.rseq E_ok [0, 1, 2, 4, 5, 6, 7, 8, 14, 21, 28, 33, 42] fun K hK => ?_
    simp [encCal_eq, encInts_eq, h14]
    repeat refine ⟨by first | omega | assumption | decide | (simp only [maxLen]; omega) | (intros; omega), ?_⟩
    refine hK _ ?_
    clear hK K
    -- region 4
    refine AWp.rseq E_ok [0, 1, 2, 4, 5, 6, 7, 8, 14, 21, 28, 33, 42] fun K hK => ?_
    simp [encCal_eq, encInts_eq, h14]
    repeat refine ⟨by first | omega | assumption | decide | (simp only [maxLen]; omega) | (intros; omega), ?_⟩
    refine meet.of (ref03_Weekday d) ?_
    simp [encCal_eq, encInts_eq, h14]
    repeat refine ⟨by first | omega | assumption | decide | (simp only [maxLen]; omega) | (intros; omega), ?_⟩
    refine hK _ ?_
    clear hK K
    refine AWp.seq ?_
    -- region 5
    refine AWp.rseq E_ok [0, 1, 2, 4, 5, 6, 7, 8, 14, 21, 28, 33, 42] fun K hK => ?_
    simp [encCal_eq, encInts_eq, h14]
    repeat refine ⟨by first | omega | assumption | decide | (simp only [maxLen]; omega) | (intros; omega), ?_⟩
    refine hK _ ?_
    clear hK K
    refine AWp.block ?_
    refine AWp.loop (ι := { k : Nat // k ≤ (wday d).toNat }) (fun x => match x with | ⟨k, hk⟩ => [(1, T.val (.int .i64 d)), (2, T.box [C.d (.int .i64 c.week), C.d (encInts c.closed)]), (5, T.val (.int .i64 (hv k c.week))), (6, T.val (.int .i64 (wday d))), (7, T.val (.int .i64 k))]) (fun x => match x with | ⟨k, hk⟩ => (wday d).toNat - k) ⟨0, by omega⟩ ?_ ?_
    · simp [Weak, TW, encCal_eq, encInts_eq]
    rintro ⟨k, hk⟩
    simp only
    try simp only at hk
    refine AWp.seq ?_
    -- region 6
    refine AWp.rseq E_ok [0, 1, 2, 4, 5, 6, 7, 8, 14, 21, 28, 33, 42] fun K hK => ?_
    simp [encCal_eq, encInts_eq, h14]
    repeat refine ⟨by first | omega | assumption | decide | (simp only [maxLen]; omega) | (intros; omega), ?_⟩
    refine hK _ ?_
    clear hK K
    refine AWp.cond rfl (fun h21 => ?_) (fun h21 => ?_)
    · try simp at h21
      refine AWp.skip ?_
      repeat first | refine thenN ?_ | refine thenX ?_ | refine thenR ?_ | refine blockN ?_ | refine blockR ?_ | refine blockX ?_ | refine blockM rfl ?_
      refine AWp.seq ?_
      refine AWp.block ?_
      -- region 8
      refine AWp.rend E_ok [0, 1, 2, 4, 5, 6, 7, 8, 14, 21, 28, 33, 42] fun K hK => ?_
      simp [encCal_eq, encInts_eq, h14, h21]
      repeat refine ⟨by first | omega | assumption | decide | (simp only [maxLen]; omega) | (intros; omega), ?_⟩
      refine hK _ ?_
      clear hK K
      repeat first | refine thenN ?_ | refine thenX ?_ | refine thenR ?_ | refine blockN ?_ | refine blockR ?_ | refine blockX ?_ | refine blockM rfl ?_
      -- region 7
      refine AWp.rend E_ok [0, 1, 2, 4, 5, 6, 7, 8, 14, 21, 28, 33, 42] fun K hK => ?_
      simp [encCal_eq, encInts_eq, h14, h21]
      repeat refine ⟨by first | omega | assumption | decide | (simp only [maxLen]; omega) | (intros; omega), ?_⟩
      refine hK _ ?_
      clear hK K
      repeat first | refine thenN ?_ | refine thenX ?_ | refine thenR ?_ | refine blockN ?_ | refine blockR ?_ | refine blockX ?_ | refine blockM rfl ?_
      have hw : IntKind.i64.wrap ((k : Int) + 1) = (k : Int) + 1 := by rw [wrap_i64] <;> omega
      refine ⟨⟨k + 1, by omega⟩, ?_, by simp only; omega⟩
      simp [Weak, TW, encCal_eq, encInts_eq, hv, hw]
    · try simp at h21
      obtain rfl : k = (wday d).toNat := by omega
      refine AWp.exit ?_
      repeat first | refine thenN ?_ | refine thenX ?_ | refine thenR ?_ | refine blockN ?_ | refine blockR ?_ | refine blockX ?_ | refine blockM rfl ?_
      refine AWp.seq ?_
      -- region 9
      refine AWp.rseq E_ok [0, 1, 2, 4, 5, 6, 7, 8, 14, 21, 28, 33, 42] fun K hK => ?_
      simp [encCal_eq, encInts_eq, h14, h21]
      repeat refine ⟨by first | omega | assumption | decide | (simp only [maxLen]; omega) | (intros; omega), ?_⟩
      refine hK _ ?_
      clear hK K
      refine AWp.cond rfl (fun h28 => ?_) (fun h28 => ?_)
      · try simp at h28
        -- region 10
        refine AWp.rseq E_ok [0, 1, 2, 4, 5, 6, 7, 8, 14, 21, 28, 33, 42] fun K hK => ?_
        simp [encCal_eq, encInts_eq, h14, h21, h28]
        repeat refine ⟨by first | omega | assumption | decide | (simp only [maxLen]; omega) | (intros; omega), ?_⟩
        refine hK _ ?_
        clear hK K
        refine AWp.ret ?_
        repeat first | refine thenN ?_ | refine thenX ?_ | refine thenR ?_ | refine blockN ?_ | refine blockR ?_ | refine blockX ?_ | refine blockM rfl ?_
        first | (rw [openR_out h14]; simp [RetOk, RV]; done) | (rw [openR_week h14 h28]; simp [RetOk, RV]; done) | (rw [openR_in h14 h28]; simp [RetOk, RV, ← hs])
      · try simp at h28
        refine AWp.skip ?_
        repeat first | refine thenN ?_ | refine thenX ?_ | refine thenR ?_ | refine blockN ?_ | refine blockR ?_ | refine blockX ?_ | refine blockM rfl ?_
        refine AWp.seq ?_
        -- region 11
        refine AWp.rseq E_ok [0, 1, 2, 4, 5, 6, 7, 8, 14, 21, 28, 33, 42] fun K hK => ?_
        simp [encCal_eq, encInts_eq, h14, h21, h28]
        repeat refine ⟨by first | omega | assumption | decide | (simp only [maxLen]; omega) | (intros; omega), ?_⟩
        refine hK _ ?_
        clear hK K
        refine AWp.block ?_
        refine AWp.range (l := c.closed) (F := anyF d) (tot := anyF d () c.closed) (fun k y => match y with | _u => True) (fun k y => match y with | _u => [(1, T.val (.int .i64 d)), (2, T.box [C.d (.int .i64 c.week), C.d (encInts c.closed)]), (8, T.val (.int .i64 k))]) () ?_ rfl ?_ ?_
        · simp [Weak, TW, encCal_eq, encInts_eq]
        · first | exact trivial | (simp; omega) | simp
        rintro k _u hk hs hi
        try simp only at hi
        refine AWp.seq ?_
        -- region 12
        refine AWp.rseq E_ok [0, 1, 2, 4, 5, 6, 7, 8, 14, 21, 28, 33, 42] fun K hK => ?_
        simp [encCal_eq, encInts_eq, h14, h21, h28]
        repeat refine ⟨by first | omega | assumption | decide | (simp only [maxLen]; omega) | (intros; omega), ?_⟩
        refine hK _ ?_
        clear hK K
        refine AWp.cond rfl (fun h33 => ?_) (fun h33 => ?_)
        · try simp at h33
          obtain ⟨x, hx, hxx, hd⟩ := at_indexG (l := c.closed) h33
          rw [hd] at hs
          refine AWp.skip ?_
          repeat first | refine thenN ?_ | refine thenX ?_ | refine thenR ?_ | refine blockN ?_ | refine blockR ?_ | refine blockX ?_ | refine blockM rfl ?_
          refine AWp.seq ?_
          refine AWp.block ?_
          -- region 14
          refine AWp.rseq E_ok [0, 1, 2, 4, 5, 6, 7, 8, 14, 21, 28, 33, 42] fun K hK => ?_
          simp [encCal_eq, encInts_eq, h14, h21, h28, h33, hx, hxx]
          repeat refine ⟨by first | omega | assumption | decide | (simp only [maxLen]; omega) | (intros; omega), ?_⟩
          refine hK _ ?_
          clear hK K
          refine AWp.cond rfl (fun h42 => ?_) (fun h42 => ?_)
          · try simp at h42
            -- region 15
            refine AWp.rseq E_ok [0, 1, 2, 4, 5, 6, 7, 8, 14, 21, 28, 33, 42] fun K hK => ?_
            simp [encCal_eq, encInts_eq, h14, h21, h28, h33, hx, hxx, h42]
            repeat refine ⟨by first | omega | assumption | decide | (simp only [maxLen]; omega) | (intros; omega), ?_⟩
            refine hK _ ?_
            clear hK K
            refine AWp.ret ?_
            repeat first | refine thenN ?_ | refine thenX ?_ | refine thenR ?_ | refine blockN ?_ | refine blockR ?_ | refine blockX ?_ | refine blockM rfl ?_
            simp [anyF, h14, h21, h28, h42] at hs
            first | (rw [openR_out h14]; simp [RetOk, RV]; done) | (rw [openR_week h14 h28]; simp [RetOk, RV]; done) | (rw [openR_in h14 h28]; simp [RetOk, RV, ← hs])
          · try simp at h42
            refine AWp.skip ?_
            repeat first | refine thenN ?_ | refine thenX ?_ | refine thenR ?_ | refine blockN ?_ | refine blockR ?_ | refine blockX ?_ | refine blockM rfl ?_
            -- region 13
            refine AWp.rend E_ok [0, 1, 2, 4, 5, 6, 7, 8, 14, 21, 28, 33, 42] fun K hK => ?_
            simp [encCal_eq, encInts_eq, h14, h21, h28, h33, hx, hxx, h42]
            repeat refine ⟨by first | omega | assumption | decide | (simp only [maxLen]; omega) | (intros; omega), ?_⟩
            refine hK _ ?_
            clear hK K
            repeat first | refine thenN ?_ | refine thenX ?_ | refine thenR ?_ | refine blockN ?_ | refine blockR ?_ | refine blockX ?_ | refine blockM rfl ?_
            have hw : IntKind.i64.wrap ((k : Int) + 1) = (k : Int) + 1 := by rw [wrap_i64] <;> omega
            simp [anyF, h14, h21, h28, h42] at hs
            refine ⟨_, h33, hs, ?_, ?_⟩
            · first | exact trivial | (simp; omega) | simp
            · simp [Weak, TW, hw, encCal_eq, encInts_eq]
        · try simp at h33
          obtain rfl : k = c.closed.length := by omega
          simp [anyF] at hs
          refine AWp.exit ?_
          repeat first | refine thenN ?_ | refine thenX ?_ | refine thenR ?_ | refine blockN ?_ | refine blockR ?_ | refine blockX ?_ | refine blockM rfl ?_
          -- region 16
          refine AWp.rseq E_ok [0, 1, 2, 4, 5, 6, 7, 8, 14, 21, 28, 33, 42] fun K hK => ?_
          simp [encCal_eq, encInts_eq, h14, h21, h28, h33]
          repeat refine ⟨by first | omega | assumption | decide | (simp only [maxLen]; omega) | (intros; omega), ?_⟩
          refine hK _ ?_
          clear hK K
          refine AWp.ret ?_
          repeat first | refine thenN ?_ | refine thenX ?_ | refine thenR ?_ | refine blockN ?_ | refine blockR ?_ | refine blockX ?_ | refine blockM rfl ?_
          first | (rw [openR_out h14]; simp [RetOk, RV]; done) | (rw [openR_week h14 h28]; simp [RetOk, RV]; done) | (rw [openR_in h14 h28]; simp [RetOk, RV, ← hs])
end Go.Proofs.Ytkdcnpdjmkoicaa

set_option maxRecDepth 100000
set_option linter.unusedSimpArgs false
set_option linter.unusedVariables false
namespace Go.Proofs.Ytkdcnpdjmkoicaa
open Go Ab Lib
theorem ref26_Next (c : Cal) (d : Int) (hcl : c.closed.length ≤ 1000000) : ACalls E.P 40 [encCal c, .int .i64 d] (.tup [.int .i64 (nextR c d).1, .int .i64 (nextR c d).2]) := by
  refine ACalls.intro E_ok Try.func40 rfl rfl Try.ntmps40 Try.results40 (Nat.le_of_ble_eq_true rfl) fun hok base S0 w0 => ?_
  -- region 0
  refine AWp.rseq E_ok [0, 1, 2, 4, 5, 6, 10, 15] fun K hK => ?_
  simp [encCal_eq, encInts_eq, lo0]
  repeat refine ⟨by first | omega | assumption | decide | (simp only [maxLen]; omega) | (intros; omega), ?_⟩
  refine hK _ ?_
  clear hK K
  refine AWp.seq ?_
  -- region 1
  refine AWp.rseq E_ok [0, 1, 2, 4, 5, 6, 10, 15] fun K hK => ?_
  simp [encCal_eq, encInts_eq, lo0]
  repeat refine ⟨by first | omega | assumption | decide | (simp only [maxLen]; omega) | (intros; omega), ?_⟩
  refine hK _ ?_
  clear hK K
  refine AWp.block ?_
  refine AWp.loop (ι := { x : Int // 0 ≤ x ∧ nextN c (109573 - x).toNat x = nextR c d }) (fun x => match x with | ⟨x, hx, hs⟩ => [(0, T.val (D.agg [D.int IntKind.i64 c.week, (D.int IntKind.i64 0).slice (List.map (D.int IntKind.i64) c.closed)])), (1, T.val (D.int IntKind.i64 d)), (2, T.box [C.d (D.int IntKind.i64 c.week), C.d ((D.int IntKind.i64 0).slice (List.map (D.int IntKind.i64) c.closed))]), (6, T.val (.int .i64 x))]) (fun x => match x with | ⟨x, hx, hs⟩ => (109573 - x).toNat) ⟨lo0 d, (lo0_rng d).1, rfl⟩ ?_ ?_
  · simp [Weak, TW, encCal_eq, encInts_eq, lo0]
  rintro ⟨x, hx, hs⟩
  simp only
  try simp only at hx
  try simp only at hs
  refine AWp.seq ?_
  -- region 2
  refine AWp.rseq E_ok [0, 1, 2, 4, 5, 6, 10, 15] fun K hK => ?_
  simp [encCal_eq, encInts_eq, lo0]
  repeat refine ⟨by first | omega | assumption | decide | (simp only [maxLen]; omega) | (intros; omega), ?_⟩
  refine hK _ ?_
  clear hK K
  refine AWp.cond rfl (fun h10 => ?_) (fun h10 => ?_)
  · try simp at h10
    have hz : (109573 - x).toNat = (109573 - (x + 1)).toNat + 1 := by omega
    rw [hz, nextN] at hs
    refine AWp.skip ?_
    repeat first | refine thenN ?_ | refine thenX ?_ | refine thenR ?_ | refine blockN ?_ | refine blockR ?_ | refine blockX ?_ | refine blockM rfl ?_
    refine AWp.seq ?_
    refine AWp.block ?_
    -- region 4
    refine AWp.rseq E_ok [0, 1, 2, 4, 5, 6, 10, 15] fun K hK => ?_
    simp [encCal_eq, encInts_eq, lo0]
    repeat refine ⟨by first | omega | assumption | decide | (simp only [maxLen]; omega) | (intros; omega), ?_⟩
    refine meet.of (ref26_Open c x hcl) ?_
    simp [encCal_eq, encInts_eq, lo0]
    repeat refine ⟨by first | omega | assumption | decide | (simp only [maxLen]; omega) | (intros; omega), ?_⟩
    refine hK _ ?_
    clear hK K
    refine AWp.cond rfl (fun h15 => ?_) (fun h15 => ?_)
    · try simp at h15
      rw [if_pos h15] at hs
      -- region 5
      refine AWp.rseq E_ok [0, 1, 2, 4, 5, 6, 10, 15] fun K hK => ?_
      simp [encCal_eq, encInts_eq, lo0]
      repeat refine ⟨by first | omega | assumption | decide | (simp only [maxLen]; omega) | (intros; omega), ?_⟩
      refine hK _ ?_
      clear hK K
      refine AWp.ret ?_
      repeat first | refine thenN ?_ | refine thenX ?_ | refine thenR ?_ | refine blockN ?_ | refine blockR ?_ | refine blockX ?_ | refine blockM rfl ?_
      simp [RetOk, RV, RVs, ← hs]
    · try simp at h15
      rw [if_neg (by simp [h15])] at hs
      refine AWp.skip ?_
      repeat first | refine thenN ?_ | refine thenX ?_ | refine thenR ?_ | refine blockN ?_ | refine blockR ?_ | refine blockX ?_ | refine blockM rfl ?_
      -- region 3
      refine AWp.rend E_ok [0, 1, 2, 4, 5, 6, 10, 15] fun K hK => ?_
      simp [encCal_eq, encInts_eq, lo0]
      repeat refine ⟨by first | omega | assumption | decide | (simp only [maxLen]; omega) | (intros; omega), ?_⟩
      refine hK _ ?_
      clear hK K
      repeat first | refine thenN ?_ | refine thenX ?_ | refine thenR ?_ | refine blockN ?_ | refine blockR ?_ | refine blockX ?_ | refine blockM rfl ?_
      have hw : IntKind.i64.wrap (x + 1) = x + 1 := by rw [wrap_i64] <;> omega
      refine ⟨⟨x + 1, by omega, hs⟩, ?_, by simp only; omega⟩
      simp [Weak, TW, encCal_eq, encInts_eq, hw]
  · try simp at h10
    have hz : (109573 - x).toNat = 0 := by omega
    rw [hz, nextN] at hs
    refine AWp.exit ?_
    repeat first | refine thenN ?_ | refine thenX ?_ | refine thenR ?_ | refine blockN ?_ | refine blockR ?_ | refine blockX ?_ | refine blockM rfl ?_
    -- region 6
    refine AWp.rseq E_ok [0, 1, 2, 4, 5, 6, 10, 15] fun K hK => ?_
    simp [encCal_eq, encInts_eq, lo0]
    repeat refine ⟨by first | omega | assumption | decide | (simp only [maxLen]; omega) | (intros; omega), ?_⟩
    refine hK _ ?_
    clear hK K
    refine AWp.ret ?_
    repeat first | refine thenN ?_ | refine thenX ?_ | refine thenR ?_ | refine blockN ?_ | refine blockR ?_ | refine blockX ?_ | refine blockM rfl ?_
    simp [RetOk, RV, RVs, ← hs]
end Go.Proofs.Ytkdcnpdjmkoicaa

set_option maxRecDepth 100000
set_option linter.unusedSimpArgs false
set_option linter.unusedVariables false
namespace Go.Proofs.Ytkdcnpdjmkoicaa
open Go Ab Lib
theorem ref26_Before (c : Cal) (d : Int) (hcl : c.closed.length ≤ 1000000) : ACalls E.P 41 [encCal c, .int .i64 d] (.tup [.int .i64 (beforeR c d).1, .int .i64 (beforeR c d).2]) := by
  refine ACalls.intro E_ok Try.func41 rfl rfl Try.ntmps41 Try.results41 (Nat.le_of_ble_eq_true rfl) fun hok base S0 w0 => ?_
  -- region 0
  refine AWp.rseq E_ok [0, 1, 2, 4, 5, 6, 10, 15] fun K hK => ?_
  simp [encCal_eq, encInts_eq, hi0]
  repeat refine ⟨by first | omega | assumption | decide | (simp only [maxLen]; omega) | (intros; omega), ?_⟩
  refine hK _ ?_
  clear hK K
  refine AWp.seq ?_
  -- region 1
  refine AWp.rseq E_ok [0, 1, 2, 4, 5, 6, 10, 15] fun K hK => ?_
  simp [encCal_eq, encInts_eq, hi0]
  repeat refine ⟨by first | omega | assumption | decide | (simp only [maxLen]; omega) | (intros; omega), ?_⟩
  refine hK _ ?_
  clear hK K
  refine AWp.block ?_
  refine AWp.loop (ι := { x : Int // x ≤ 109572 ∧ beforeN c (x + 1).toNat x = beforeR c d }) (fun x => match x with | ⟨x, hx, hs⟩ => [(0, T.val (D.agg [D.int IntKind.i64 c.week, (D.int IntKind.i64 0).slice (List.map (D.int IntKind.i64) c.closed)])), (1, T.val (D.int IntKind.i64 d)), (2, T.box [C.d (D.int IntKind.i64 c.week), C.d ((D.int IntKind.i64 0).slice (List.map (D.int IntKind.i64) c.closed))]), (6, T.val (.int .i64 x))]) (fun x => match x with | ⟨x, hx, hs⟩ => (x + 1).toNat) ⟨hi0 d, (hi0_rng d).1, rfl⟩ ?_ ?_
  · simp [Weak, TW, encCal_eq, encInts_eq, hi0]
  rintro ⟨x, hx, hs⟩
  simp only
  try simp only at hx
  try simp only at hs
  refine AWp.seq ?_
  -- region 2
  refine AWp.rseq E_ok [0, 1, 2, 4, 5, 6, 10, 15] fun K hK => ?_
  simp [encCal_eq, encInts_eq, hi0]
  repeat refine ⟨by first | omega | assumption | decide | (simp only [maxLen]; omega) | (intros; omega), ?_⟩
  refine hK _ ?_
  clear hK K
  refine AWp.cond rfl (fun h10 => ?_) (fun h10 => ?_)
  · try simp at h10
    have hz : (x + 1).toNat = (x - 1 + 1).toNat + 1 := by omega
    rw [hz, beforeN] at hs
    refine AWp.skip ?_
    repeat first | refine thenN ?_ | refine thenX ?_ | refine thenR ?_ | refine blockN ?_ | refine blockR ?_ | refine blockX ?_ | refine blockM rfl ?_
    refine AWp.seq ?_
    refine AWp.block ?_
    -- region 4
    refine AWp.rseq E_ok [0, 1, 2, 4, 5, 6, 10, 15] fun K hK => ?_
    simp [encCal_eq, encInts_eq, hi0]
    repeat refine ⟨by first | omega | assumption | decide | (simp only [maxLen]; omega) | (intros; omega), ?_⟩
    refine meet.of (ref26_Open c x hcl) ?_
    simp [encCal_eq, encInts_eq, hi0]
    repeat refine ⟨by first | omega | assumption | decide | (simp only [maxLen]; omega) | (intros; omega), ?_⟩
    refine hK _ ?_
    clear hK K
    refine AWp.cond rfl (fun h15 => ?_) (fun h15 => ?_)
    · try simp at h15
      rw [if_pos h15] at hs
      -- region 5
      refine AWp.rseq E_ok [0, 1, 2, 4, 5, 6, 10, 15] fun K hK => ?_
      simp [encCal_eq, encInts_eq, hi0]
      repeat refine ⟨by first | omega | assumption | decide | (simp only [maxLen]; omega) | (intros; omega), ?_⟩
      refine hK _ ?_
      clear hK K
      refine AWp.ret ?_
      repeat first | refine thenN ?_ | refine thenX ?_ | refine thenR ?_ | refine blockN ?_ | refine blockR ?_ | refine blockX ?_ | refine blockM rfl ?_
      simp [RetOk, RV, RVs, ← hs]
    · try simp at h15
      rw [if_neg (by simp [h15])] at hs
      refine AWp.skip ?_
      repeat first | refine thenN ?_ | refine thenX ?_ | refine thenR ?_ | refine blockN ?_ | refine blockR ?_ | refine blockX ?_ | refine blockM rfl ?_
      -- region 3
      refine AWp.rend E_ok [0, 1, 2, 4, 5, 6, 10, 15] fun K hK => ?_
      simp [encCal_eq, encInts_eq, hi0]
      repeat refine ⟨by first | omega | assumption | decide | (simp only [maxLen]; omega) | (intros; omega), ?_⟩
      refine hK _ ?_
      clear hK K
      repeat first | refine thenN ?_ | refine thenX ?_ | refine thenR ?_ | refine blockN ?_ | refine blockR ?_ | refine blockX ?_ | refine blockM rfl ?_
      have hw : IntKind.i64.wrap (x - 1) = x - 1 := by rw [wrap_i64] <;> omega
      refine ⟨⟨x - 1, by omega, hs⟩, ?_, by simp only; omega⟩
      simp [Weak, TW, encCal_eq, encInts_eq, hw]
  · try simp at h10
    have hz : (x + 1).toNat = 0 := by omega
    rw [hz, beforeN] at hs
    refine AWp.exit ?_
    repeat first | refine thenN ?_ | refine thenX ?_ | refine thenR ?_ | refine blockN ?_ | refine blockR ?_ | refine blockX ?_ | refine blockM rfl ?_
    -- region 6
    refine AWp.rseq E_ok [0, 1, 2, 4, 5, 6, 10, 15] fun K hK => ?_
    simp [encCal_eq, encInts_eq, hi0]
    repeat refine ⟨by first | omega | assumption | decide | (simp only [maxLen]; omega) | (intros; omega), ?_⟩
    refine hK _ ?_
    clear hK K
    refine AWp.ret ?_
    repeat first | refine thenN ?_ | refine thenX ?_ | refine thenR ?_ | refine blockN ?_ | refine blockR ?_ | refine blockX ?_ | refine blockM rfl ?_
    simp [RetOk, RV, RVs, ← hs]
end Go.Proofs.Ytkdcnpdjmkoicaa

set_option maxRecDepth 100000
set_option linter.unusedSimpArgs false
set_option linter.unusedVariables false
namespace Go.Proofs.Ytkdcnpdjmkoicaa
open Go Ab Lib
theorem ref27_Due (r : Rule) (c : Cal) (d u : Int) (hcl : c.closed.length ≤ 1000000) (hr : limR r = true) : ACalls E.P 21 [encRule r, encCal c, .int .i64 d, .int .i64 u] (.tup [.int .i64 (dueR r c d u).1, .int .i64 (dueR r c d u).2]) := by
  refine ACalls.intro E_ok Try.func21 rfl rfl Try.ntmps21 Try.results21 (Nat.le_of_ble_eq_true rfl) fun hok base S0 w0 => ?_
  -- region 0
  refine AWp.rseq E_ok [0, 1, 2, 3, 4, 5, 8, 9, 10, 11, 12, 20, 23, 27, 34, 52, 65] fun K hK => ?_
  simp [encRule_eq, encCal_eq, encInts_eq]
  repeat refine ⟨by first | omega | assumption | decide | (simp only [maxLen]; omega) | (intros; omega), ?_⟩
  refine hK _ ?_
  clear hK K
  refine AWp.seq ?_
  -- region 1
  refine AWp.rseq E_ok [0, 1, 2, 3, 4, 5, 8, 9, 10, 11, 12, 20, 23, 27, 34, 52, 65] fun K hK => ?_
  simp [encRule_eq, encCal_eq, encInts_eq]
  repeat refine ⟨by first | omega | assumption | decide | (simp only [maxLen]; omega) | (intros; omega), ?_⟩
  refine meet.of (ref27_within _ _ _) ?_
  simp [encRule_eq, encCal_eq, encInts_eq]
  repeat refine ⟨by first | omega | assumption | decide | (simp only [maxLen]; omega) | (intros; omega), ?_⟩
  refine meet.of (ref27_within _ _ _) ?_
  simp [encRule_eq, encCal_eq, encInts_eq]
  repeat refine ⟨by first | omega | assumption | decide | (simp only [maxLen]; omega) | (intros; omega), ?_⟩
  refine hK _ ?_
  clear hK K
  refine AWp.cond rfl (fun h20 => ?_) (fun h20 => ?_)
  · try simp at h20
    -- region 2
    refine AWp.rseq E_ok [0, 1, 2, 3, 4, 5, 8, 9, 10, 11, 12, 20, 23, 27, 34, 52, 65] fun K hK => ?_
    simp [encRule_eq, encCal_eq, encInts_eq, h20]
    repeat refine ⟨by first | omega | assumption | decide | (simp only [maxLen]; omega) | (intros; omega), ?_⟩
    refine hK _ ?_
    clear hK K
    refine AWp.ret ?_
    repeat first | refine thenN ?_ | refine thenX ?_ | refine thenR ?_ | refine blockN ?_ | refine blockR ?_ | refine blockX ?_ | refine blockM rfl ?_
    first | (rw [due_a h20]; simp [RetOk, RV, RVs]; done) | (rw [due_b h20 (.inl h23)]; simp [RetOk, RV, RVs]; done) | (rw [due_b h20 (.inr h34)]; simp [RetOk, RV, RVs]; done) | (rw [due_c h20 ⟨h23, h34⟩ h52']; simp [RetOk, RV, RVs, dueA, minI]; done) | (exfalso; simp only [dueA, minI] at hgt; omega) | (rw [due_d h20 ⟨h23, h34⟩ h52' h65]; simp [RetOk, RV, RVs]; done) | (rw [due_e h20 ⟨h23, h34⟩ h52' h65]; simp [RetOk, RV, RVs])
  · try simp at h20
    refine AWp.skip ?_
    repeat first | refine thenN ?_ | refine thenX ?_ | refine thenR ?_ | refine blockN ?_ | refine blockR ?_ | refine blockX ?_ | refine blockM rfl ?_
    refine AWp.seq ?_
    -- region 3
    refine AWp.rseq E_ok [0, 1, 2, 3, 4, 5, 8, 9, 10, 11, 12, 20, 23, 27, 34, 52, 65] fun K hK => ?_
    simp [encRule_eq, encCal_eq, encInts_eq, h20]
    repeat refine ⟨by first | omega | assumption | decide | (simp only [maxLen]; omega) | (intros; omega), ?_⟩
    refine hK _ ?_
    clear hK K
    refine AWp.cond rfl (fun h23 => ?_) (fun h23 => ?_)
    · try simp at h23
      -- region 4
      refine AWp.rseq E_ok [0, 1, 2, 3, 4, 5, 8, 9, 10, 11, 12, 20, 23, 27, 34, 52, 65] fun K hK => ?_
      simp [encRule_eq, encCal_eq, encInts_eq, h20, h23]
      repeat refine ⟨by first | omega | assumption | decide | (simp only [maxLen]; omega) | (intros; omega), ?_⟩
      refine hK _ ?_
      clear hK K
      refine AWp.ret ?_
      repeat first | refine thenN ?_ | refine thenX ?_ | refine thenR ?_ | refine blockN ?_ | refine blockR ?_ | refine blockX ?_ | refine blockM rfl ?_
      first | (rw [due_a h20]; simp [RetOk, RV, RVs]; done) | (rw [due_b h20 (.inl h23)]; simp [RetOk, RV, RVs]; done) | (rw [due_b h20 (.inr h34)]; simp [RetOk, RV, RVs]; done) | (rw [due_c h20 ⟨h23, h34⟩ h52']; simp [RetOk, RV, RVs, dueA, minI]; done) | (exfalso; simp only [dueA, minI] at hgt; omega) | (rw [due_d h20 ⟨h23, h34⟩ h52' h65]; simp [RetOk, RV, RVs]; done) | (rw [due_e h20 ⟨h23, h34⟩ h52' h65]; simp [RetOk, RV, RVs])
    · try simp at h23
      refine AWp.skip ?_
      repeat first | refine thenN ?_ | refine thenX ?_ | refine thenR ?_ | refine blockN ?_ | refine blockR ?_ | refine blockX ?_ | refine blockM rfl ?_
      -- region 5
      refine AWp.rseq E_ok [0, 1, 2, 3, 4, 5, 8, 9, 10, 11, 12, 20, 23, 27, 34, 52, 65] fun K hK => ?_
      simp [encRule_eq, encCal_eq, encInts_eq, h20, h23]
      repeat refine ⟨by first | omega | assumption | decide | (simp only [maxLen]; omega) | (intros; omega), ?_⟩
      refine hK _ ?_
      clear hK K
      refine AWp.join (ι := Unit) (fun _ => [(0, T.val (D.agg [D.int IntKind.i64 r.r0, D.int IntKind.i64 r.r1, D.int IntKind.i64 r.r2, D.int IntKind.i64 r.r3, D.int IntKind.i64 r.r4, D.int IntKind.i64 r.fine, D.int IntKind.i64 r.grace, D.int IntKind.i64 r.maxFine, D.int IntKind.i64 r.r8, D.int IntKind.i64 r.r9, D.int IntKind.i64 r.r10, D.int IntKind.i64 r.r11, D.int IntKind.i64 r.r12])), (1, T.val (D.agg [D.int IntKind.i64 c.week, (D.int IntKind.i64 0).slice (List.map (D.int IntKind.i64) c.closed)])), (2, T.val (D.int IntKind.i64 d)), (3, T.val (D.int IntKind.i64 u)), (4, T.box [C.d (D.int IntKind.i64 r.r0), C.d (D.int IntKind.i64 r.r1), C.d (D.int IntKind.i64 r.r2), C.d (D.int IntKind.i64 r.r3), C.d (D.int IntKind.i64 r.r4), C.d (D.int IntKind.i64 r.fine), C.d (D.int IntKind.i64 r.grace), C.d (D.int IntKind.i64 r.maxFine), C.d (D.int IntKind.i64 r.r8), C.d (D.int IntKind.i64 r.r9), C.d (D.int IntKind.i64 r.r10), C.d (D.int IntKind.i64 r.r11), C.d (D.int IntKind.i64 r.r12)]), (5, T.box [C.d (D.int IntKind.i64 c.week), C.d ((D.int IntKind.i64 0).slice (List.map (D.int IntKind.i64) c.closed))]), (10, T.val (.int .i64 (lastR r u)))]) ?_ ?_
      · skip
        -- region 6
        refine AWp.rseq E_ok [0, 1, 2, 3, 4, 5, 8, 9, 10, 11, 12, 20, 23, 27, 34, 52, 65] fun K hK => ?_
        simp [encRule_eq, encCal_eq, encInts_eq, h20, h23]
        repeat refine ⟨by first | omega | assumption | decide | (simp only [maxLen]; omega) | (intros; omega), ?_⟩
        refine hK _ ?_
        clear hK K
        refine AWp.cond rfl (fun h27 => ?_) (fun h27 => ?_)
        · try simp at h27
          -- region 7
          refine AWp.rend E_ok [0, 1, 2, 3, 4, 5, 8, 9, 10, 11, 12, 20, 23, 27, 34, 52, 65] fun K hK => ?_
          simp [encRule_eq, encCal_eq, encInts_eq, h20, h23, h27]
          repeat refine ⟨by first | omega | assumption | decide | (simp only [maxLen]; omega) | (intros; omega), ?_⟩
          refine hK _ ?_
          clear hK K
          repeat first | refine thenN ?_ | refine thenX ?_ | refine thenR ?_ | refine blockN ?_ | refine blockR ?_ | refine blockX ?_ | refine blockM rfl ?_
          refine ⟨(), ?_⟩
          simp [Weak, TW, encRule_eq, encCal_eq, encInts_eq, h20, h23, h27, lastR]
          all_goals (intros; omega)
        · try simp at h27
          refine AWp.skip ?_
          repeat first | refine thenN ?_ | refine thenX ?_ | refine thenR ?_ | refine blockN ?_ | refine blockR ?_ | refine blockX ?_ | refine blockM rfl ?_
          refine ⟨(), ?_⟩
          simp [Weak, TW, encRule_eq, encCal_eq, encInts_eq, h20, h23, h27, lastR]
          all_goals (intros; omega)
      rintro ⟨⟩
      try simp only
      refine AWp.seq ?_
      -- region 8
      refine AWp.rseq E_ok [0, 1, 2, 3, 4, 5, 8, 9, 10, 11, 12, 20, 23, 27, 34, 52, 65] fun K hK => ?_
      simp [encRule_eq, encCal_eq, encInts_eq, h20, h23]
      repeat refine ⟨by first | omega | assumption | decide | (simp only [maxLen]; omega) | (intros; omega), ?_⟩
      refine hK _ ?_
      clear hK K
      refine AWp.cond rfl (fun h34 => ?_) (fun h34 => ?_)
      · try simp at h34
        -- region 9
        refine AWp.rseq E_ok [0, 1, 2, 3, 4, 5, 8, 9, 10, 11, 12, 20, 23, 27, 34, 52, 65] fun K hK => ?_
        simp [encRule_eq, encCal_eq, encInts_eq, h20, h23, h34]
        repeat refine ⟨by first | omega | assumption | decide | (simp only [maxLen]; omega) | (intros; omega), ?_⟩
        refine hK _ ?_
        clear hK K
        refine AWp.ret ?_
        repeat first | refine thenN ?_ | refine thenX ?_ | refine thenR ?_ | refine blockN ?_ | refine blockR ?_ | refine blockX ?_ | refine blockM rfl ?_
        first | (rw [due_a h20]; simp [RetOk, RV, RVs]; done) | (rw [due_b h20 (.inl h23)]; simp [RetOk, RV, RVs]; done) | (rw [due_b h20 (.inr h34)]; simp [RetOk, RV, RVs]; done) | (rw [due_c h20 ⟨h23, h34⟩ h52']; simp [RetOk, RV, RVs, dueA, minI]; done) | (exfalso; simp only [dueA, minI] at hgt; omega) | (rw [due_d h20 ⟨h23, h34⟩ h52' h65]; simp [RetOk, RV, RVs]; done) | (rw [due_e h20 ⟨h23, h34⟩ h52' h65]; simp [RetOk, RV, RVs])
      · try simp at h34
        refine AWp.skip ?_
        repeat first | refine thenN ?_ | refine thenX ?_ | refine thenR ?_ | refine blockN ?_ | refine blockR ?_ | refine blockX ?_ | refine blockM rfl ?_
        -- region 10
        refine AWp.rseq E_ok [0, 1, 2, 3, 4, 5, 8, 9, 10, 11, 12, 20, 23, 27, 34, 52, 65] fun K hK => ?_
        simp [encRule_eq, encCal_eq, encInts_eq, h20, h23, h34]
        repeat refine ⟨by first | omega | assumption | decide | (simp only [maxLen]; omega) | (intros; omega), ?_⟩
        refine meet.of (ref26_Next c _ hcl) ?_
        simp [encRule_eq, encCal_eq, encInts_eq, h20, h23, h34]
        repeat refine ⟨by first | omega | assumption | decide | (simp only [maxLen]; omega) | (intros; omega), ?_⟩
        refine hK _ ?_
        clear hK K
        refine AWp.seq ?_
        -- region 11
        refine AWp.rseq E_ok [0, 1, 2, 3, 4, 5, 8, 9, 10, 11, 12, 20, 23, 27, 34, 52, 65] fun K hK => ?_
        simp [encRule_eq, encCal_eq, encInts_eq, h20, h23, h34]
        repeat refine ⟨by first | omega | assumption | decide | (simp only [maxLen]; omega) | (intros; omega), ?_⟩
        refine hK _ ?_
        clear hK K
        refine AWp.cond rfl (fun h52 => ?_) (fun h52 => ?_)
        · try simp at h52
          have h52' : ¬ ((dueA r c d u).2 = 0 ∧ (dueA r c d u).1 ≤ lastR r u) := by rintro ⟨a, b⟩; rcases h52 with h | h; exact h a; simp only [dueA, minI] at b; omega
          -- region 12
          refine AWp.rend E_ok [0, 1, 2, 3, 4, 5, 8, 9, 10, 11, 12, 20, 23, 27, 34, 52, 65] fun K hK => ?_
          simp [encRule_eq, encCal_eq, encInts_eq, h20, h23, h34]
          repeat refine ⟨by first | omega | assumption | decide | (simp only [maxLen]; omega) | (intros; omega), ?_⟩
          refine meet.of (ref26_Before c _ hcl) ?_
          simp [encRule_eq, encCal_eq, encInts_eq, h20, h23, h34]
          repeat refine ⟨by first | omega | assumption | decide | (simp only [maxLen]; omega) | (intros; omega), ?_⟩
          refine hK _ ?_
          clear hK K
          repeat first | refine thenN ?_ | refine thenX ?_ | refine thenR ?_ | refine blockN ?_ | refine blockR ?_ | refine blockX ?_ | refine blockM rfl ?_
          refine AWp.seq ?_
          -- region 13
          refine AWp.rseq E_ok [0, 1, 2, 3, 4, 5, 8, 9, 10, 11, 12, 20, 23, 27, 34, 52, 65] fun K hK => ?_
          simp [encRule_eq, encCal_eq, encInts_eq, h20, h23, h34]
          repeat refine ⟨by first | omega | assumption | decide | (simp only [maxLen]; omega) | (intros; omega), ?_⟩
          refine hK _ ?_
          clear hK K
          refine AWp.cond rfl (fun h65 => ?_) (fun h65 => ?_)
          · try simp at h65
            -- region 14
            refine AWp.rseq E_ok [0, 1, 2, 3, 4, 5, 8, 9, 10, 11, 12, 20, 23, 27, 34, 52, 65] fun K hK => ?_
            simp [encRule_eq, encCal_eq, encInts_eq, h20, h23, h34]
            repeat refine ⟨by first | omega | assumption | decide | (simp only [maxLen]; omega) | (intros; omega), ?_⟩
            refine hK _ ?_
            clear hK K
            refine AWp.ret ?_
            repeat first | refine thenN ?_ | refine thenX ?_ | refine thenR ?_ | refine blockN ?_ | refine blockR ?_ | refine blockX ?_ | refine blockM rfl ?_
            first | (rw [due_a h20]; simp [RetOk, RV, RVs]; done) | (rw [due_b h20 (.inl h23)]; simp [RetOk, RV, RVs]; done) | (rw [due_b h20 (.inr h34)]; simp [RetOk, RV, RVs]; done) | (rw [due_c h20 ⟨h23, h34⟩ h52']; simp [RetOk, RV, RVs, dueA, minI]; done) | (exfalso; simp only [dueA, minI] at hgt; omega) | (rw [due_d h20 ⟨h23, h34⟩ h52' h65]; simp [RetOk, RV, RVs]; done) | (rw [due_e h20 ⟨h23, h34⟩ h52' h65]; simp [RetOk, RV, RVs])
          · try simp at h65
            refine AWp.skip ?_
            repeat first | refine thenN ?_ | refine thenX ?_ | refine thenR ?_ | refine blockN ?_ | refine blockR ?_ | refine blockX ?_ | refine blockM rfl ?_
            -- region 15
            refine AWp.rseq E_ok [0, 1, 2, 3, 4, 5, 8, 9, 10, 11, 12, 20, 23, 27, 34, 52, 65] fun K hK => ?_
            simp [encRule_eq, encCal_eq, encInts_eq, h20, h23, h34]
            repeat refine ⟨by first | omega | assumption | decide | (simp only [maxLen]; omega) | (intros; omega), ?_⟩
            refine hK _ ?_
            clear hK K
            refine AWp.ret ?_
            repeat first | refine thenN ?_ | refine thenX ?_ | refine thenR ?_ | refine blockN ?_ | refine blockR ?_ | refine blockX ?_ | refine blockM rfl ?_
            first | (rw [due_a h20]; simp [RetOk, RV, RVs]; done) | (rw [due_b h20 (.inl h23)]; simp [RetOk, RV, RVs]; done) | (rw [due_b h20 (.inr h34)]; simp [RetOk, RV, RVs]; done) | (rw [due_c h20 ⟨h23, h34⟩ h52']; simp [RetOk, RV, RVs, dueA, minI]; done) | (exfalso; simp only [dueA, minI] at hgt; omega) | (rw [due_d h20 ⟨h23, h34⟩ h52' h65]; simp [RetOk, RV, RVs]; done) | (rw [due_e h20 ⟨h23, h34⟩ h52' h65]; simp [RetOk, RV, RVs])
        · try simp at h52
          have h52' : (dueA r c d u).2 = 0 ∧ (dueA r c d u).1 ≤ lastR r u := h52
          have hgt := due_gt (c := c) hr h20 ⟨h23, h34⟩ h52'.1
          refine AWp.skip ?_
          repeat first | refine thenN ?_ | refine thenX ?_ | refine thenR ?_ | refine blockN ?_ | refine blockR ?_ | refine blockX ?_ | refine blockM rfl ?_
          refine AWp.seq ?_
          -- region 13
          refine AWp.rseq E_ok [0, 1, 2, 3, 4, 5, 8, 9, 10, 11, 12, 20, 23, 27, 34, 52, 65] fun K hK => ?_
          simp [encRule_eq, encCal_eq, encInts_eq, h20, h23, h34]
          repeat refine ⟨by first | omega | assumption | decide | (simp only [maxLen]; omega) | (intros; omega), ?_⟩
          refine hK _ ?_
          clear hK K
          refine AWp.cond rfl (fun h65 => ?_) (fun h65 => ?_)
          · try simp at h65
            -- region 14
            refine AWp.rseq E_ok [0, 1, 2, 3, 4, 5, 8, 9, 10, 11, 12, 20, 23, 27, 34, 52, 65] fun K hK => ?_
            simp [encRule_eq, encCal_eq, encInts_eq, h20, h23, h34]
            repeat refine ⟨by first | omega | assumption | decide | (simp only [maxLen]; omega) | (intros; omega), ?_⟩
            refine hK _ ?_
            clear hK K
            refine AWp.ret ?_
            repeat first | refine thenN ?_ | refine thenX ?_ | refine thenR ?_ | refine blockN ?_ | refine blockR ?_ | refine blockX ?_ | refine blockM rfl ?_
            first | (rw [due_a h20]; simp [RetOk, RV, RVs]; done) | (rw [due_b h20 (.inl h23)]; simp [RetOk, RV, RVs]; done) | (rw [due_b h20 (.inr h34)]; simp [RetOk, RV, RVs]; done) | (rw [due_c h20 ⟨h23, h34⟩ h52']; simp [RetOk, RV, RVs, dueA, minI]; done) | (exfalso; simp only [dueA, minI] at hgt; omega) | (rw [due_d h20 ⟨h23, h34⟩ h52' h65]; simp [RetOk, RV, RVs]; done) | (rw [due_e h20 ⟨h23, h34⟩ h52' h65]; simp [RetOk, RV, RVs])
          · try simp at h65
            refine AWp.skip ?_
            repeat first | refine thenN ?_ | refine thenX ?_ | refine thenR ?_ | refine blockN ?_ | refine blockR ?_ | refine blockX ?_ | refine blockM rfl ?_
            -- region 15
            refine AWp.rseq E_ok [0, 1, 2, 3, 4, 5, 8, 9, 10, 11, 12, 20, 23, 27, 34, 52, 65] fun K hK => ?_
            simp [encRule_eq, encCal_eq, encInts_eq, h20, h23, h34]
            repeat refine ⟨by first | omega | assumption | decide | (simp only [maxLen]; omega) | (intros; omega), ?_⟩
            refine hK _ ?_
            clear hK K
            refine AWp.ret ?_
            repeat first | refine thenN ?_ | refine thenX ?_ | refine thenR ?_ | refine blockN ?_ | refine blockR ?_ | refine blockX ?_ | refine blockM rfl ?_
            first | (rw [due_a h20]; simp [RetOk, RV, RVs]; done) | (rw [due_b h20 (.inl h23)]; simp [RetOk, RV, RVs]; done) | (rw [due_b h20 (.inr h34)]; simp [RetOk, RV, RVs]; done) | (rw [due_c h20 ⟨h23, h34⟩ h52']; simp [RetOk, RV, RVs, dueA, minI]; done) | (exfalso; simp only [dueA, minI] at hgt; omega) | (rw [due_d h20 ⟨h23, h34⟩ h52' h65]; simp [RetOk, RV, RVs]; done) | (rw [due_e h20 ⟨h23, h34⟩ h52' h65]; simp [RetOk, RV, RVs])
end Go.Proofs.Ytkdcnpdjmkoicaa

set_option maxRecDepth 100000
set_option linter.unusedSimpArgs false
set_option linter.unusedVariables false
namespace Go.Proofs.Ytkdcnpdjmkoicaa
open Go Ab Lib
theorem law27_PolicyDues (r : Rule) (c : Cal) (x : Days) : ACalls E.P 5 [encRule r, encCal c, encDays x] (.d (.bool true)) := by
  refine ACalls.intro E_ok Try.func5 rfl rfl Try.ntmps5 Try.results5 (Nat.le_of_ble_eq_true rfl) fun hok base S0 w0 => ?_
  -- region 0
  refine AWp.rseq E_ok [0, 1, 2, 3, 4, 5, 6, 7, 8, 9, 10, 24] fun K hK => ?_
  simp [encRule_eq, encCal_eq, encInts_eq, encDays_eq]
  repeat refine ⟨by first | omega | assumption | decide | (simp only [maxLen]; omega) | (intros; omega), ?_⟩
  refine hK _ ?_
  clear hK K
  refine AWp.seq ?_
  -- region 1
  refine AWp.rseq E_ok [0, 1, 2, 3, 4, 5, 6, 7, 8, 9, 10, 24] fun K hK => ?_
  simp [encRule_eq, encCal_eq, encInts_eq, encDays_eq]
  repeat refine ⟨by first | omega | assumption | decide | (simp only [maxLen]; omega) | (intros; omega), ?_⟩
  refine meet.of (ref27_RightRule r) ?_
  simp [encRule_eq, encCal_eq, encInts_eq, encDays_eq]
  repeat refine ⟨by first | omega | assumption | decide | (simp only [maxLen]; omega) | (intros; omega), ?_⟩
  refine meet.of (ref26_Right c) ?_
  simp [encRule_eq, encCal_eq, encInts_eq, encDays_eq]
  repeat refine ⟨by first | omega | assumption | decide | (simp only [maxLen]; omega) | (intros; omega), ?_⟩
  refine hK _ ?_
  clear hK K
  refine AWp.cond rfl (fun h24 => ?_) (fun h24 => ?_)
  · try simp at h24
    -- region 2
    refine AWp.rseq E_ok [0, 1, 2, 3, 4, 5, 6, 7, 8, 9, 10, 24] fun K hK => ?_
    simp [encRule_eq, encCal_eq, encInts_eq, encDays_eq, h24]
    repeat refine ⟨by first | omega | assumption | decide | (simp only [maxLen]; omega) | (intros; omega), ?_⟩
    refine meet.of (law27_alive) ?_
    simp [encRule_eq, encCal_eq, encInts_eq, encDays_eq, h24]
    repeat refine ⟨by first | omega | assumption | decide | (simp only [maxLen]; omega) | (intros; omega), ?_⟩
    refine hK _ ?_
    clear hK K
    refine AWp.ret ?_
    repeat first | refine thenN ?_ | refine thenX ?_ | refine thenR ?_ | refine blockN ?_ | refine blockR ?_ | refine blockX ?_ | refine blockM rfl ?_
    simp [RetOk, RV]
  · try simp at h24
    refine AWp.skip ?_
    repeat first | refine thenN ?_ | refine thenX ?_ | refine thenR ?_ | refine blockN ?_ | refine blockR ?_ | refine blockX ?_ | refine blockM rfl ?_
    -- region 3
    refine AWp.rseq E_ok [0, 1, 2, 3, 4, 5, 6, 7, 8, 9, 10, 24] fun K hK => ?_
    simp [encRule_eq, encCal_eq, encInts_eq, encDays_eq, h24]
    repeat refine ⟨by first | omega | assumption | decide | (simp only [maxLen]; omega) | (intros; omega), ?_⟩
    refine meet.of (policy_Due r c x.day x.til h24.2) ?_
    simp [encRule_eq, encCal_eq, encInts_eq, encDays_eq, h24]
    repeat refine ⟨by first | omega | assumption | decide | (simp only [maxLen]; omega) | (intros; omega), ?_⟩
    refine hK _ ?_
    clear hK K
    -- region 4
    refine AWp.rseq E_ok [0, 1, 2, 3, 4, 5, 6, 7, 8, 9, 10, 24] fun K hK => ?_
    simp [encRule_eq, encCal_eq, encInts_eq, encDays_eq, h24]
    repeat refine ⟨by first | omega | assumption | decide | (simp only [maxLen]; omega) | (intros; omega), ?_⟩
    refine meet.of (ref27_Due r c x.day x.til (by omega) h24.1.1) ?_
    simp [encRule_eq, encCal_eq, encInts_eq, encDays_eq, h24]
    repeat refine ⟨by first | omega | assumption | decide | (simp only [maxLen]; omega) | (intros; omega), ?_⟩
    refine hK _ ?_
    clear hK K
    -- region 5
    refine AWp.rseq E_ok [0, 1, 2, 3, 4, 5, 6, 7, 8, 9, 10, 24] fun K hK => ?_
    simp [encRule_eq, encCal_eq, encInts_eq, encDays_eq, h24]
    repeat refine ⟨by first | omega | assumption | decide | (simp only [maxLen]; omega) | (intros; omega), ?_⟩
    refine meet.of (law27_alive) ?_
    simp [encRule_eq, encCal_eq, encInts_eq, encDays_eq, h24]
    repeat refine ⟨by first | omega | assumption | decide | (simp only [maxLen]; omega) | (intros; omega), ?_⟩
    refine hK _ ?_
    clear hK K
    refine AWp.ret ?_
    repeat first | refine thenN ?_ | refine thenX ?_ | refine thenR ?_ | refine blockN ?_ | refine blockR ?_ | refine blockX ?_ | refine blockM rfl ?_
    simp [RetOk, RV]
end Go.Proofs.Ytkdcnpdjmkoicaa

set_option maxRecDepth 100000
set_option linter.unusedSimpArgs false
set_option linter.unusedVariables false
namespace Go.Proofs.Ytkdcnpdjmkoicaa
open Go Ab Lib
theorem ref27_Renew (r : Rule) (c : Cal) (n : Loan) (d u : Int) (hcl : c.closed.length ≤ 1000000) (hr : limR r = true) : ACalls E.P 23 [encRule r, encCal c, encLoan n, .int .i64 d, .int .i64 u] (.tup [.int .i64 (renR r c n d u).1, .int .i64 (renR r c n d u).2]) := by
  refine ACalls.intro E_ok Try.func23 rfl rfl Try.ntmps23 Try.results23 (Nat.le_of_ble_eq_true rfl) fun hok base S0 w0 => ?_
  -- region 0
  refine AWp.rseq E_ok [0, 1, 2, 3, 4, 5, 6, 7, 10, 11, 12, 13, 22, 32, 37] fun K hK => ?_
  simp [encRule_eq, encCal_eq, encInts_eq, encLoan_eq]
  repeat refine ⟨by first | omega | assumption | decide | (simp only [maxLen]; omega) | (intros; omega), ?_⟩
  refine hK _ ?_
  clear hK K
  refine AWp.seq ?_
  -- region 1
  refine AWp.rseq E_ok [0, 1, 2, 3, 4, 5, 6, 7, 10, 11, 12, 13, 22, 32, 37] fun K hK => ?_
  simp [encRule_eq, encCal_eq, encInts_eq, encLoan_eq]
  repeat refine ⟨by first | omega | assumption | decide | (simp only [maxLen]; omega) | (intros; omega), ?_⟩
  refine hK _ ?_
  clear hK K
  refine AWp.cond rfl (fun h22 => ?_) (fun h22 => ?_)
  · try simp at h22
    -- region 2
    refine AWp.rseq E_ok [0, 1, 2, 3, 4, 5, 6, 7, 10, 11, 12, 13, 22, 32, 37] fun K hK => ?_
    simp [encRule_eq, encCal_eq, encInts_eq, encLoan_eq, h22]
    repeat refine ⟨by first | omega | assumption | decide | (simp only [maxLen]; omega) | (intros; omega), ?_⟩
    refine hK _ ?_
    clear hK K
    refine AWp.ret ?_
    repeat first | refine thenN ?_ | refine thenX ?_ | refine thenR ?_ | refine blockN ?_ | refine blockR ?_ | refine blockX ?_ | refine blockM rfl ?_
    first | (rw [ren_a h22]; simp [RetOk, RV, RVs]; done) | (rw [ren_b h22 h32]; simp [RetOk, RV, RVs]; done) | (rw [ren_c h22 h32 h37]; simp [RetOk, RV, RVs]; done) | (rw [ren_d h22 h32 h37]; simp [RetOk, RV, RVs])
  · try simp at h22
    refine AWp.skip ?_
    repeat first | refine thenN ?_ | refine thenX ?_ | refine thenR ?_ | refine blockN ?_ | refine blockR ?_ | refine blockX ?_ | refine blockM rfl ?_
    -- region 3
    refine AWp.rseq E_ok [0, 1, 2, 3, 4, 5, 6, 7, 10, 11, 12, 13, 22, 32, 37] fun K hK => ?_
    simp [encRule_eq, encCal_eq, encInts_eq, encLoan_eq, h22]
    repeat refine ⟨by first | omega | assumption | decide | (simp only [maxLen]; omega) | (intros; omega), ?_⟩
    refine meet.of (ref27_Due r c d u hcl hr) ?_
    simp [encRule_eq, encCal_eq, encInts_eq, encLoan_eq, h22]
    repeat refine ⟨by first | omega | assumption | decide | (simp only [maxLen]; omega) | (intros; omega), ?_⟩
    refine hK _ ?_
    clear hK K
    refine AWp.seq ?_
    -- region 4
    refine AWp.rseq E_ok [0, 1, 2, 3, 4, 5, 6, 7, 10, 11, 12, 13, 22, 32, 37] fun K hK => ?_
    simp [encRule_eq, encCal_eq, encInts_eq, encLoan_eq, h22]
    repeat refine ⟨by first | omega | assumption | decide | (simp only [maxLen]; omega) | (intros; omega), ?_⟩
    refine hK _ ?_
    clear hK K
    refine AWp.cond rfl (fun h32 => ?_) (fun h32 => ?_)
    · try simp at h32
      -- region 5
      refine AWp.rseq E_ok [0, 1, 2, 3, 4, 5, 6, 7, 10, 11, 12, 13, 22, 32, 37] fun K hK => ?_
      simp [encRule_eq, encCal_eq, encInts_eq, encLoan_eq, h22]
      repeat refine ⟨by first | omega | assumption | decide | (simp only [maxLen]; omega) | (intros; omega), ?_⟩
      refine hK _ ?_
      clear hK K
      refine AWp.ret ?_
      repeat first | refine thenN ?_ | refine thenX ?_ | refine thenR ?_ | refine blockN ?_ | refine blockR ?_ | refine blockX ?_ | refine blockM rfl ?_
      first | (rw [ren_a h22]; simp [RetOk, RV, RVs]; done) | (rw [ren_b h22 h32]; simp [RetOk, RV, RVs]; done) | (rw [ren_c h22 h32 h37]; simp [RetOk, RV, RVs]; done) | (rw [ren_d h22 h32 h37]; simp [RetOk, RV, RVs])
    · try simp at h32
      refine AWp.skip ?_
      repeat first | refine thenN ?_ | refine thenX ?_ | refine thenR ?_ | refine blockN ?_ | refine blockR ?_ | refine blockX ?_ | refine blockM rfl ?_
      refine AWp.seq ?_
      -- region 6
      refine AWp.rseq E_ok [0, 1, 2, 3, 4, 5, 6, 7, 10, 11, 12, 13, 22, 32, 37] fun K hK => ?_
      simp [encRule_eq, encCal_eq, encInts_eq, encLoan_eq, h22]
      repeat refine ⟨by first | omega | assumption | decide | (simp only [maxLen]; omega) | (intros; omega), ?_⟩
      refine hK _ ?_
      clear hK K
      refine AWp.cond rfl (fun h37 => ?_) (fun h37 => ?_)
      · try simp at h37
        -- region 7
        refine AWp.rseq E_ok [0, 1, 2, 3, 4, 5, 6, 7, 10, 11, 12, 13, 22, 32, 37] fun K hK => ?_
        simp [encRule_eq, encCal_eq, encInts_eq, encLoan_eq, h22]
        repeat refine ⟨by first | omega | assumption | decide | (simp only [maxLen]; omega) | (intros; omega), ?_⟩
        refine hK _ ?_
        clear hK K
        refine AWp.ret ?_
        repeat first | refine thenN ?_ | refine thenX ?_ | refine thenR ?_ | refine blockN ?_ | refine blockR ?_ | refine blockX ?_ | refine blockM rfl ?_
        first | (rw [ren_a h22]; simp [RetOk, RV, RVs]; done) | (rw [ren_b h22 h32]; simp [RetOk, RV, RVs]; done) | (rw [ren_c h22 h32 h37]; simp [RetOk, RV, RVs]; done) | (rw [ren_d h22 h32 h37]; simp [RetOk, RV, RVs])
      · try simp at h37
        refine AWp.skip ?_
        repeat first | refine thenN ?_ | refine thenX ?_ | refine thenR ?_ | refine blockN ?_ | refine blockR ?_ | refine blockX ?_ | refine blockM rfl ?_
        -- region 8
        refine AWp.rseq E_ok [0, 1, 2, 3, 4, 5, 6, 7, 10, 11, 12, 13, 22, 32, 37] fun K hK => ?_
        simp [encRule_eq, encCal_eq, encInts_eq, encLoan_eq, h22]
        repeat refine ⟨by first | omega | assumption | decide | (simp only [maxLen]; omega) | (intros; omega), ?_⟩
        refine hK _ ?_
        clear hK K
        refine AWp.ret ?_
        repeat first | refine thenN ?_ | refine thenX ?_ | refine thenR ?_ | refine blockN ?_ | refine blockR ?_ | refine blockX ?_ | refine blockM rfl ?_
        first | (rw [ren_a h22]; simp [RetOk, RV, RVs]; done) | (rw [ren_b h22 h32]; simp [RetOk, RV, RVs]; done) | (rw [ren_c h22 h32 h37]; simp [RetOk, RV, RVs]; done) | (rw [ren_d h22 h32 h37]; simp [RetOk, RV, RVs])
end Go.Proofs.Ytkdcnpdjmkoicaa

set_option maxRecDepth 100000
set_option linter.unusedSimpArgs false
set_option linter.unusedVariables false
namespace Go.Proofs.Ytkdcnpdjmkoicaa
open Go Ab Lib
theorem law27_PolicyRenews (r : Rule) (c : Cal) (x : Renewal) : ACalls E.P 6 [encRule r, encCal c, encRenewal x] (.d (.bool true)) := by
  refine ACalls.intro E_ok Try.func6 rfl rfl Try.ntmps6 Try.results6 (Nat.le_of_ble_eq_true rfl) fun hok base S0 w0 => ?_
  -- region 0
  refine AWp.rseq E_ok [0, 1, 2, 3, 4, 5, 6, 7, 8, 9, 10, 24] fun K hK => ?_
  simp [encRule_eq, encCal_eq, encInts_eq, encRenewal_eq]
  repeat refine ⟨by first | omega | assumption | decide | (simp only [maxLen]; omega) | (intros; omega), ?_⟩
  refine hK _ ?_
  clear hK K
  refine AWp.seq ?_
  -- region 1
  refine AWp.rseq E_ok [0, 1, 2, 3, 4, 5, 6, 7, 8, 9, 10, 24] fun K hK => ?_
  simp [encRule_eq, encCal_eq, encInts_eq, encRenewal_eq]
  repeat refine ⟨by first | omega | assumption | decide | (simp only [maxLen]; omega) | (intros; omega), ?_⟩
  refine meet.of (ref27_RightRule r) ?_
  simp [encRule_eq, encCal_eq, encInts_eq, encRenewal_eq]
  repeat refine ⟨by first | omega | assumption | decide | (simp only [maxLen]; omega) | (intros; omega), ?_⟩
  refine meet.of (ref26_Right c) ?_
  simp [encRule_eq, encCal_eq, encInts_eq, encRenewal_eq]
  repeat refine ⟨by first | omega | assumption | decide | (simp only [maxLen]; omega) | (intros; omega), ?_⟩
  refine hK _ ?_
  clear hK K
  refine AWp.cond rfl (fun h24 => ?_) (fun h24 => ?_)
  · try simp at h24
    -- region 2
    refine AWp.rseq E_ok [0, 1, 2, 3, 4, 5, 6, 7, 8, 9, 10, 24] fun K hK => ?_
    simp [encRule_eq, encCal_eq, encInts_eq, encRenewal_eq, h24]
    repeat refine ⟨by first | omega | assumption | decide | (simp only [maxLen]; omega) | (intros; omega), ?_⟩
    refine meet.of (law27_alive) ?_
    simp [encRule_eq, encCal_eq, encInts_eq, encRenewal_eq, h24]
    repeat refine ⟨by first | omega | assumption | decide | (simp only [maxLen]; omega) | (intros; omega), ?_⟩
    refine hK _ ?_
    clear hK K
    refine AWp.ret ?_
    repeat first | refine thenN ?_ | refine thenX ?_ | refine thenR ?_ | refine blockN ?_ | refine blockR ?_ | refine blockX ?_ | refine blockM rfl ?_
    simp [RetOk, RV]
  · try simp at h24
    refine AWp.skip ?_
    repeat first | refine thenN ?_ | refine thenX ?_ | refine thenR ?_ | refine blockN ?_ | refine blockR ?_ | refine blockX ?_ | refine blockM rfl ?_
    -- region 3
    refine AWp.rseq E_ok [0, 1, 2, 3, 4, 5, 6, 7, 8, 9, 10, 24] fun K hK => ?_
    simp [encRule_eq, encCal_eq, encInts_eq, encRenewal_eq, h24]
    repeat refine ⟨by first | omega | assumption | decide | (simp only [maxLen]; omega) | (intros; omega), ?_⟩
    refine meet.of (policy_Renew r c x.loan x.days.day x.days.til h24.2) ?_
    simp [encRule_eq, encCal_eq, encInts_eq, encRenewal_eq, h24]
    repeat refine ⟨by first | omega | assumption | decide | (simp only [maxLen]; omega) | (intros; omega), ?_⟩
    refine hK _ ?_
    clear hK K
    -- region 4
    refine AWp.rseq E_ok [0, 1, 2, 3, 4, 5, 6, 7, 8, 9, 10, 24] fun K hK => ?_
    simp [encRule_eq, encCal_eq, encInts_eq, encRenewal_eq, h24]
    repeat refine ⟨by first | omega | assumption | decide | (simp only [maxLen]; omega) | (intros; omega), ?_⟩
    refine meet.of (ref27_Renew r c x.loan x.days.day x.days.til (by omega) h24.1.1) ?_
    simp [encRule_eq, encCal_eq, encInts_eq, encRenewal_eq, h24]
    repeat refine ⟨by first | omega | assumption | decide | (simp only [maxLen]; omega) | (intros; omega), ?_⟩
    refine hK _ ?_
    clear hK K
    -- region 5
    refine AWp.rseq E_ok [0, 1, 2, 3, 4, 5, 6, 7, 8, 9, 10, 24] fun K hK => ?_
    simp [encRule_eq, encCal_eq, encInts_eq, encRenewal_eq, h24]
    repeat refine ⟨by first | omega | assumption | decide | (simp only [maxLen]; omega) | (intros; omega), ?_⟩
    refine meet.of (law27_alive) ?_
    simp [encRule_eq, encCal_eq, encInts_eq, encRenewal_eq, h24]
    repeat refine ⟨by first | omega | assumption | decide | (simp only [maxLen]; omega) | (intros; omega), ?_⟩
    refine hK _ ?_
    clear hK K
    refine AWp.ret ?_
    repeat first | refine thenN ?_ | refine thenX ?_ | refine thenR ?_ | refine blockN ?_ | refine blockR ?_ | refine blockX ?_ | refine blockM rfl ?_
    simp [RetOk, RV]
end Go.Proofs.Ytkdcnpdjmkoicaa

set_option maxRecDepth 100000
set_option linter.unusedSimpArgs false
set_option linter.unusedVariables false
namespace Go.Proofs.Ytkdcnpdjmkoicaa
open Go Ab Lib
theorem law27_same (a b : List Int) : ACalls E.P 24 [encInts a, encInts b] (.d (.bool (decide (a = b)))) := by
  refine ACalls.intro E_ok Try.func24 rfl rfl Try.ntmps24 Try.results24 (Nat.le_of_ble_eq_true rfl) fun hok base S0 w0 => ?_
  have hl : a.length ≤ 9223372036854775807 := by have := (Ok_slice (hok (encInts a) (by simp))).1; simpa using this
  -- region 0
  refine AWp.rseq E_ok [0, 1, 4, 5, 10, 12, 13, 14, 24] fun K hK => ?_
  simp [encInts_eq]
  repeat refine ⟨by first | omega | assumption | decide | (simp only [maxLen]; omega) | (intros; omega), ?_⟩
  refine hK _ ?_
  clear hK K
  refine AWp.seq ?_
  -- region 1
  refine AWp.rseq E_ok [0, 1, 4, 5, 10, 12, 13, 14, 24] fun K hK => ?_
  simp [encInts_eq]
  repeat refine ⟨by first | omega | assumption | decide | (simp only [maxLen]; omega) | (intros; omega), ?_⟩
  refine hK _ ?_
  clear hK K
  refine AWp.cond rfl (fun h10 => ?_) (fun h10 => ?_)
  · try simp at h10
    -- region 2
    refine AWp.rseq E_ok [0, 1, 4, 5, 10, 12, 13, 14, 24] fun K hK => ?_
    simp [encInts_eq]
    repeat refine ⟨by first | omega | assumption | decide | (simp only [maxLen]; omega) | (intros; omega), ?_⟩
    refine hK _ ?_
    clear hK K
    refine AWp.ret ?_
    repeat first | refine thenN ?_ | refine thenX ?_ | refine thenR ?_ | refine blockN ?_ | refine blockR ?_ | refine blockX ?_ | refine blockM rfl ?_
    first | (simp [RetOk, RV]; intro e; exact h10 (by rw [e])) | (simp [RetOk, RV]; exact hne) | (simp [RetOk, RV]; exact hall)
  · try simp at h10
    have hab : b.length = a.length := by omega
    refine AWp.skip ?_
    repeat first | refine thenN ?_ | refine thenX ?_ | refine thenR ?_ | refine blockN ?_ | refine blockR ?_ | refine blockX ?_ | refine blockM rfl ?_
    refine AWp.seq ?_
    -- region 3
    refine AWp.rseq E_ok [0, 1, 4, 5, 10, 12, 13, 14, 24] fun K hK => ?_
    simp [encInts_eq]
    repeat refine ⟨by first | omega | assumption | decide | (simp only [maxLen]; omega) | (intros; omega), ?_⟩
    refine hK _ ?_
    clear hK K
    refine AWp.block ?_
    refine AWp.range (l := a) (F := sameI) (tot := decide (a = b)) (fun k y => match y with | r => r = b.drop k) (fun k y => match y with | r => [(0, T.val ((D.int IntKind.i64 0).slice (List.map (D.int IntKind.i64) a))), (1, T.val ((D.int IntKind.i64 0).slice (List.map (D.int IntKind.i64) b))), (12, T.val (D.int IntKind.i64 ↑a.length)), (13, T.val (.int .i64 k))]) (b) ?_ rfl ?_ ?_
    · simp [Weak, TW, encInts_eq]
    · first | exact trivial | (simp; omega) | simp
    rintro k r hk hs hi
    try simp only at hi
    -- region 4
    refine AWp.rseq E_ok [0, 1, 4, 5, 10, 12, 13, 14, 24] fun K hK => ?_
    simp [encInts_eq]
    repeat refine ⟨by first | omega | assumption | decide | (simp only [maxLen]; omega) | (intros; omega), ?_⟩
    refine hK _ ?_
    clear hK K
    refine AWp.seq ?_
    refine AWp.cond rfl (fun h14 => ?_) (fun h14 => ?_)
    · try simp at h14
      obtain ⟨x, hx, hxx, hd⟩ := at_indexG (l := a) h14
      rw [hd] at hs
      obtain ⟨y, hy1, hy2, hyd⟩ := at_indexG (l := b) (k := k) (by omega)
      have hkb : k < b.length := by omega
      rw [hi, hyd] at hs
      refine AWp.skip ?_
      repeat first | refine thenN ?_ | refine thenX ?_ | refine thenR ?_ | refine blockN ?_ | refine blockR ?_ | refine blockX ?_ | refine blockM rfl ?_
      refine AWp.seq ?_
      refine AWp.block ?_
      -- region 5
      refine AWp.rseq E_ok [0, 1, 4, 5, 10, 12, 13, 14, 24] fun K hK => ?_
      simp [encInts_eq, h14, hx, hxx, hy1, hy2, hkb]
      repeat refine ⟨by first | omega | assumption | decide | (simp only [maxLen]; omega) | (intros; omega), ?_⟩
      refine hK _ ?_
      clear hK K
      -- region 6
      refine AWp.rseqQ E_ok mixed [0, 1, 4, 5, 10, 12, 13, 14, 24] (by kernel_rfl) fun K hK => ?_
      simp [encInts_eq, h14, hx, hxx, hy1, hy2, hkb]
      repeat refine ⟨by first | omega | assumption | decide | (simp only [maxLen]; omega) | (intros; omega), ?_⟩
      refine hK _ ?_
      clear hK K
      refine AWp.cond rfl (fun h24 => ?_) (fun h24 => ?_)
      · try simp at h24
        have hne : ¬ a = b := by intro e; rw [e] at hx; rw [hx] at hy1; exact h24 (by simpa using hy1)
        -- region 7
        refine AWp.rseq E_ok [0, 1, 4, 5, 10, 12, 13, 14, 24] fun K hK => ?_
        simp [encInts_eq, h14, hx, hxx, hy1, hy2, hkb, h24]
        repeat refine ⟨by first | omega | assumption | decide | (simp only [maxLen]; omega) | (intros; omega), ?_⟩
        refine hK _ ?_
        clear hK K
        refine AWp.ret ?_
        repeat first | refine thenN ?_ | refine thenX ?_ | refine thenR ?_ | refine blockN ?_ | refine blockR ?_ | refine blockX ?_ | refine blockM rfl ?_
        first | (simp [RetOk, RV]; intro e; exact h10 (by rw [e])) | (simp [RetOk, RV]; exact hne) | (simp [RetOk, RV]; exact hall)
      · try simp at h24
        have hs2 : sameI (b.drop (k + 1)) (a.drop (k + 1)) = decide (a = b) := by rw [← hs, h24]; simp [sameI]
        refine AWp.skip ?_
        repeat first | refine thenN ?_ | refine thenX ?_ | refine thenR ?_ | refine blockN ?_ | refine blockR ?_ | refine blockX ?_ | refine blockM rfl ?_
        -- region 8
        refine AWp.rend E_ok [0, 1, 4, 5, 10, 12, 13, 14, 24] fun K hK => ?_
        simp [encInts_eq, h14, hx, hxx, hy1, hy2, hkb, h24]
        repeat refine ⟨by first | omega | assumption | decide | (simp only [maxLen]; omega) | (intros; omega), ?_⟩
        refine hK _ ?_
        clear hK K
        repeat first | refine thenN ?_ | refine thenX ?_ | refine thenR ?_ | refine blockN ?_ | refine blockR ?_ | refine blockX ?_ | refine blockM rfl ?_
        have hw : IntKind.i64.wrap ((k : Int) + 1) = (k : Int) + 1 := by rw [wrap_i64] <;> omega
        have hs := hs2
        refine ⟨_, h14, hs, ?_, ?_⟩
        · first | exact trivial | (simp; omega) | simp
        · simp [Weak, TW, hw, encInts_eq]
    · try simp at h14
      have hall : a = b := by have e1 : a.drop k = [] := List.drop_eq_nil_of_le (by omega); have e2 : b.drop k = [] := List.drop_eq_nil_of_le (by omega); rw [hi, e1, e2] at hs; simpa [sameI] using hs.symm
      obtain rfl : k = a.length := by omega
      refine AWp.exit ?_
      repeat first | refine thenN ?_ | refine thenX ?_ | refine thenR ?_ | refine blockN ?_ | refine blockR ?_ | refine blockX ?_ | refine blockM rfl ?_
      -- region 9
      refine AWp.rseq E_ok [0, 1, 4, 5, 10, 12, 13, 14, 24] fun K hK => ?_
      simp [encInts_eq, h14]
      repeat refine ⟨by first | omega | assumption | decide | (simp only [maxLen]; omega) | (intros; omega), ?_⟩
      refine hK _ ?_
      clear hK K
      refine AWp.ret ?_
      repeat first | refine thenN ?_ | refine thenX ?_ | refine thenR ?_ | refine blockN ?_ | refine blockR ?_ | refine blockX ?_ | refine blockM rfl ?_
      first | (simp [RetOk, RV]; intro e; exact h10 (by rw [e])) | (simp [RetOk, RV]; exact hne) | (simp [RetOk, RV]; exact hall)
end Go.Proofs.Ytkdcnpdjmkoicaa

set_option maxRecDepth 100000
set_option linter.unusedSimpArgs false
set_option linter.unusedVariables false
namespace Go.Proofs.Ytkdcnpdjmkoicaa
open Go Ab Lib
theorem law27_PolicyHides (l : List Rule) : ACalls E.P 7 [encRules l] (.d (.bool true)) := by
  refine ACalls.intro E_ok Try.func7 rfl rfl Try.ntmps7 Try.results7 (Nat.le_of_ble_eq_true rfl) fun hok base S0 w0 => ?_
  -- region 0
  refine AWp.rseq E_ok [0, 2, 10] fun K hK => ?_
  simp [encRules_eq, encInts_eq]
  repeat refine ⟨by first | omega | assumption | decide | (simp only [maxLen]; omega) | (intros; omega), ?_⟩
  refine hK _ ?_
  clear hK K
  refine AWp.seq ?_
  -- region 1
  refine AWp.rseq E_ok [0, 2, 10] fun K hK => ?_
  simp [encRules_eq, encInts_eq]
  repeat refine ⟨by first | omega | assumption | decide | (simp only [maxLen]; omega) | (intros; omega), ?_⟩
  refine meet.of (ref27_Right l) ?_
  simp [encRules_eq, encInts_eq]
  repeat refine ⟨by first | omega | assumption | decide | (simp only [maxLen]; omega) | (intros; omega), ?_⟩
  refine hK _ ?_
  clear hK K
  refine AWp.cond rfl (fun h10 => ?_) (fun h10 => ?_)
  · try simp at h10
    -- region 2
    refine AWp.rseq E_ok [0, 2, 10] fun K hK => ?_
    simp [encRules_eq, encInts_eq, h10]
    repeat refine ⟨by first | omega | assumption | decide | (simp only [maxLen]; omega) | (intros; omega), ?_⟩
    refine meet.of (law27_alive) ?_
    simp [encRules_eq, encInts_eq, h10]
    repeat refine ⟨by first | omega | assumption | decide | (simp only [maxLen]; omega) | (intros; omega), ?_⟩
    refine hK _ ?_
    clear hK K
    refine AWp.ret ?_
    repeat first | refine thenN ?_ | refine thenX ?_ | refine thenR ?_ | refine blockN ?_ | refine blockR ?_ | refine blockX ?_ | refine blockM rfl ?_
    simp [RetOk, RV]
  · try simp at h10
    refine AWp.skip ?_
    repeat first | refine thenN ?_ | refine thenX ?_ | refine thenR ?_ | refine blockN ?_ | refine blockR ?_ | refine blockX ?_ | refine blockM rfl ?_
    -- region 3
    refine AWp.rseq E_ok [0, 2, 10] fun K hK => ?_
    simp [encRules_eq, encInts_eq, h10]
    repeat refine ⟨by first | omega | assumption | decide | (simp only [maxLen]; omega) | (intros; omega), ?_⟩
    refine meet.of (policy_Hidden l (by omega)) ?_
    simp [encRules_eq, encInts_eq, h10]
    repeat refine ⟨by first | omega | assumption | decide | (simp only [maxLen]; omega) | (intros; omega), ?_⟩
    refine meet.of (ref27_Hidden_h l (by omega)) ?_
    simp [encRules_eq, encInts_eq, h10]
    repeat refine ⟨by first | omega | assumption | decide | (simp only [maxLen]; omega) | (intros; omega), ?_⟩
    refine meet.of (law27_same (hidR l) (hidR l)) ?_
    simp [encRules_eq, encInts_eq, h10]
    repeat refine ⟨by first | omega | assumption | decide | (simp only [maxLen]; omega) | (intros; omega), ?_⟩
    refine meet.of (law27_alive) ?_
    simp [encRules_eq, encInts_eq, h10]
    repeat refine ⟨by first | omega | assumption | decide | (simp only [maxLen]; omega) | (intros; omega), ?_⟩
    refine hK _ ?_
    clear hK K
    refine AWp.ret ?_
    repeat first | refine thenN ?_ | refine thenX ?_ | refine thenR ?_ | refine blockN ?_ | refine blockR ?_ | refine blockX ?_ | refine blockM rfl ?_
    simp [RetOk, RV]
end Go.Proofs.Ytkdcnpdjmkoicaa

set_option maxRecDepth 100000
set_option linter.unusedSimpArgs false
set_option linter.unusedVariables false
namespace Go.Proofs.Ytkdcnpdjmkoicaa
open Go Ab Lib
theorem law27_PolicyDecides (l : List Rule) (q : Qry) : ACalls E.P 8 [encRules l, encQry q] (.d (.bool true)) := by
  refine ACalls.intro E_ok Try.func8 rfl rfl Try.ntmps8 Try.results8 (Nat.le_of_ble_eq_true rfl) fun hok base S0 w0 => ?_
  -- region 0
  refine AWp.rseq E_ok [0, 1, 3, 4, 5, 6, 7, 9, 17, 30, 31, 32, 33, 44, 58] fun K hK => ?_
  simp [encRules_eq, encQry_eq, encRule_eq]
  repeat refine ⟨by first | omega | assumption | decide | (simp only [maxLen]; omega) | (intros; omega), ?_⟩
  refine hK _ ?_
  clear hK K
  refine AWp.seq ?_
  -- region 1
  refine AWp.rseq E_ok [0, 1, 3, 4, 5, 6, 7, 9, 17, 30, 31, 32, 33, 44, 58] fun K hK => ?_
  simp [encRules_eq, encQry_eq, encRule_eq]
  repeat refine ⟨by first | omega | assumption | decide | (simp only [maxLen]; omega) | (intros; omega), ?_⟩
  refine meet.of (policy_Right l) ?_
  simp [encRules_eq, encQry_eq, encRule_eq]
  repeat refine ⟨by first | omega | assumption | decide | (simp only [maxLen]; omega) | (intros; omega), ?_⟩
  refine hK _ ?_
  clear hK K
  refine AWp.cond rfl (fun h17 => ?_) (fun h17 => ?_)
  · try simp at h17
    -- region 2
    refine AWp.rseq E_ok [0, 1, 3, 4, 5, 6, 7, 9, 17, 30, 31, 32, 33, 44, 58] fun K hK => ?_
    simp [encRules_eq, encQry_eq, encRule_eq, h17]
    repeat refine ⟨by first | omega | assumption | decide | (simp only [maxLen]; omega) | (intros; omega), ?_⟩
    refine meet.of (law27_alive) ?_
    simp [encRules_eq, encQry_eq, encRule_eq, h17]
    repeat refine ⟨by first | omega | assumption | decide | (simp only [maxLen]; omega) | (intros; omega), ?_⟩
    refine hK _ ?_
    clear hK K
    refine AWp.ret ?_
    repeat first | refine thenN ?_ | refine thenX ?_ | refine thenR ?_ | refine blockN ?_ | refine blockR ?_ | refine blockX ?_ | refine blockM rfl ?_
    first | (simp [RetOk, RV]; done) | (simp [RetOk, RV, hi, there_found]; done)
  · try simp at h17
    have hr : rulesR l = 0 := h17.2
    refine AWp.skip ?_
    repeat first | refine thenN ?_ | refine thenX ?_ | refine thenR ?_ | refine blockN ?_ | refine blockR ?_ | refine blockX ?_ | refine blockM rfl ?_
    -- region 3
    refine AWp.rseq E_ok [0, 1, 3, 4, 5, 6, 7, 9, 17, 30, 31, 32, 33, 44, 58] fun K hK => ?_
    simp [encRules_eq, encQry_eq, encRule_eq, h17]
    repeat refine ⟨by first | omega | assumption | decide | (simp only [maxLen]; omega) | (intros; omega), ?_⟩
    refine meet.of (policy_Find l q) ?_
    simp [encRules_eq, encQry_eq, encRule_eq, h17]
    repeat refine ⟨by first | omega | assumption | decide | (simp only [maxLen]; omega) | (intros; omega), ?_⟩
    refine hK _ ?_
    clear hK K
    -- region 4
    refine AWp.rseq E_ok [0, 1, 3, 4, 5, 6, 7, 9, 17, 30, 31, 32, 33, 44, 58] fun K hK => ?_
    simp [encRules_eq, encQry_eq, encRule_eq, h17]
    repeat refine ⟨by first | omega | assumption | decide | (simp only [maxLen]; omega) | (intros; omega), ?_⟩
    refine hK _ ?_
    clear hK K
    refine AWp.seq ?_
    -- region 5
    refine AWp.rseq E_ok [0, 1, 3, 4, 5, 6, 7, 9, 17, 30, 31, 32, 33, 44, 58] fun K hK => ?_
    simp [encRules_eq, encQry_eq, encRule_eq, h17]
    repeat refine ⟨by first | omega | assumption | decide | (simp only [maxLen]; omega) | (intros; omega), ?_⟩
    refine hK _ ?_
    clear hK K
    refine AWp.block ?_
    refine AWp.range (l := l) (F := nilF) (tot := nilF false l) (fun k y => match y with | t => t = thereB q (findR l q) (l.take k)) (fun k y => match y with | t => [(0, T.val ((D.agg [D.int IntKind.i64 zr.r0, D.int IntKind.i64 zr.r1, D.int IntKind.i64 zr.r2, D.int IntKind.i64 zr.r3, D.int IntKind.i64 zr.r4, D.int IntKind.i64 zr.fine, D.int IntKind.i64 zr.grace, D.int IntKind.i64 zr.maxFine, D.int IntKind.i64 zr.r8, D.int IntKind.i64 zr.r9, D.int IntKind.i64 zr.r10, D.int IntKind.i64 zr.r11, D.int IntKind.i64 zr.r12]).slice (List.map encRule l))), (1, T.val (D.agg [D.int IntKind.i64 q.p, D.int IntKind.i64 q.i, D.int IntKind.i64 q.b])), (3, T.box [C.d (D.int IntKind.i64 q.p), C.d (D.int IntKind.i64 q.i), C.d (D.int IntKind.i64 q.b)]), (5, T.box [C.d (D.int IntKind.i64 (findR l q).r0), C.d (D.int IntKind.i64 (findR l q).r1), C.d (D.int IntKind.i64 (findR l q).r2), C.d (D.int IntKind.i64 (findR l q).r3), C.d (D.int IntKind.i64 (findR l q).r4), C.d (D.int IntKind.i64 (findR l q).fine), C.d (D.int IntKind.i64 (findR l q).grace), C.d (D.int IntKind.i64 (findR l q).maxFine), C.d (D.int IntKind.i64 (findR l q).r8), C.d (D.int IntKind.i64 (findR l q).r9), C.d (D.int IntKind.i64 (findR l q).r10), C.d (D.int IntKind.i64 (findR l q).r11), C.d (D.int IntKind.i64 (findR l q).r12)]), (6, T.val (D.bool (foundR l q))), (7, T.val (.bool t)), (30, T.val ((D.agg [D.int IntKind.i64 zr.r0, D.int IntKind.i64 zr.r1, D.int IntKind.i64 zr.r2, D.int IntKind.i64 zr.r3, D.int IntKind.i64 zr.r4, D.int IntKind.i64 zr.fine, D.int IntKind.i64 zr.grace, D.int IntKind.i64 zr.maxFine, D.int IntKind.i64 zr.r8, D.int IntKind.i64 zr.r9, D.int IntKind.i64 zr.r10, D.int IntKind.i64 zr.r11, D.int IntKind.i64 zr.r12]).slice (List.map encRule l))), (31, T.val (D.int IntKind.i64 ↑l.length)), (32, T.val (.int .i64 k))]) (false) ?_ rfl ?_ ?_
    · simp [Weak, TW, encRules_eq, encQry_eq, encRule_eq]
    · first | rfl | skip
    rintro k t hk hs hi
    try simp only at hi
    -- region 6
    refine AWp.rseq E_ok [0, 1, 3, 4, 5, 6, 7, 9, 17, 30, 31, 32, 33, 44, 58] fun K hK => ?_
    simp [encRules_eq, encQry_eq, encRule_eq, h17]
    repeat refine ⟨by first | omega | assumption | decide | (simp only [maxLen]; omega) | (intros; omega), ?_⟩
    refine hK _ ?_
    clear hK K
    refine AWp.seq ?_
    refine AWp.cond rfl (fun h33 => ?_) (fun h33 => ?_)
    · try simp at h33
      obtain ⟨x, hx, hxx, hd⟩ := at_indexG (l := l) h33
      rw [hd] at hs
      have w1 := wtR_rng x
      have w2 := wtR_rng (findR l q)
      refine AWp.skip ?_
      repeat first | refine thenN ?_ | refine thenX ?_ | refine thenR ?_ | refine blockN ?_ | refine blockR ?_ | refine blockX ?_ | refine blockM rfl ?_
      refine AWp.seq ?_
      refine AWp.block ?_
      -- region 7
      refine AWp.rseq E_ok [0, 1, 3, 4, 5, 6, 7, 9, 17, 30, 31, 32, 33, 44, 58] fun K hK => ?_
      simp [encRules_eq, encQry_eq, encRule_eq, h17, h33, hx, hxx]
      repeat refine ⟨by first | omega | assumption | decide | (simp only [maxLen]; omega) | (intros; omega), ?_⟩
      refine hK _ ?_
      clear hK K
      refine AWp.seq ?_
      -- region 8
      refine AWp.rseq E_ok [0, 1, 3, 4, 5, 6, 7, 9, 17, 30, 31, 32, 33, 44, 58] fun K hK => ?_
      simp [encRules_eq, encQry_eq, encRule_eq, h17, h33, hx, hxx]
      repeat refine ⟨by first | omega | assumption | decide | (simp only [maxLen]; omega) | (intros; omega), ?_⟩
      refine meet.of (policy_Fits x q) ?_
      simp [encRules_eq, encQry_eq, encRule_eq, h17, h33, hx, hxx]
      repeat refine ⟨by first | omega | assumption | decide | (simp only [maxLen]; omega) | (intros; omega), ?_⟩
      refine hK _ ?_
      clear hK K
      refine AWp.cond rfl (fun h44 => ?_) (fun h44 => ?_)
      · try simp at h44
        have hfx : fitsB x q = false := by simpa using h44
        refine AWp.exit ?_
        repeat first | refine thenN ?_ | refine thenX ?_ | refine thenR ?_ | refine blockN ?_ | refine blockR ?_ | refine blockX ?_ | refine blockM rfl ?_
        -- region 12
        refine AWp.rend E_ok [0, 1, 3, 4, 5, 6, 7, 9, 17, 30, 31, 32, 33, 44, 58] fun K hK => ?_
        simp [encRules_eq, encQry_eq, encRule_eq, h17, h33, hx, hxx]
        repeat refine ⟨by first | omega | assumption | decide | (simp only [maxLen]; omega) | (intros; omega), ?_⟩
        refine hK _ ?_
        clear hK K
        repeat first | refine thenN ?_ | refine thenX ?_ | refine thenR ?_ | refine blockN ?_ | refine blockR ?_ | refine blockX ?_ | refine blockM rfl ?_
        have hw : IntKind.i64.wrap ((k : Int) + 1) = (k : Int) + 1 := by rw [wrap_i64] <;> omega
        skip
        refine ⟨(thereB q (findR l q) (l.take (k + 1))), h33, hs, ?_, ?_⟩
        · first | rfl | skip
        · simp [Weak, TW, hw, encRules_eq, encQry_eq, encRule_eq, hi, List.take_add_one, hx, thereB_snoc, hfx, rule_beq]
      · try simp at h44
        have hfx : fitsB x q = true := by simpa using h44
        refine AWp.skip ?_
        repeat first | refine thenN ?_ | refine thenX ?_ | refine thenR ?_ | refine blockN ?_ | refine blockR ?_ | refine blockX ?_ | refine blockM rfl ?_
        refine AWp.seq ?_
        -- region 9
        refine AWp.rseqQ E_ok mixed [0, 1, 3, 4, 5, 6, 7, 9, 17, 30, 31, 32, 33, 44, 58] (by kernel_rfl) fun K hK => ?_
        simp [encRules_eq, encQry_eq, encRule_eq, h17, h33, hx, hxx]
        repeat refine ⟨by first | omega | assumption | decide | (simp only [maxLen]; omega) | (intros; omega), ?_⟩
        refine meet.of (ref27_Weight x) ?_
        simp [encRules_eq, encQry_eq, encRule_eq, h17, h33, hx, hxx]
        repeat refine ⟨by first | omega | assumption | decide | (simp only [maxLen]; omega) | (intros; omega), ?_⟩
        refine meet.of (ref27_Weight (findR l q)) ?_
        simp [encRules_eq, encQry_eq, encRule_eq, h17, h33, hx, hxx]
        repeat refine ⟨by first | omega | assumption | decide | (simp only [maxLen]; omega) | (intros; omega), ?_⟩
        refine hK _ ?_
        clear hK K
        refine AWp.cond rfl (fun h58 => ?_) (fun h58 => ?_)
        · try simp at h58
          exfalso; have hm : x ∈ l := List.mem_of_getElem? hx; have hfo := fits_found hm hfx; rcases h58 with h | ⟨h, h'⟩; rw [hfo] at h; cases h; by_cases e : x = findR l q; rw [← e] at h; simp at h; have := (best_uniq hr hm hfx e).2; omega
        · try simp at h58
          refine AWp.skip ?_
          repeat first | refine thenN ?_ | refine thenX ?_ | refine thenR ?_ | refine blockN ?_ | refine blockR ?_ | refine blockX ?_ | refine blockM rfl ?_
          -- region 11
          refine AWp.rend E_ok [0, 1, 3, 4, 5, 6, 7, 9, 17, 30, 31, 32, 33, 44, 58] fun K hK => ?_
          simp [encRules_eq, encQry_eq, encRule_eq, h17, h33, hx, hxx]
          repeat refine ⟨by first | omega | assumption | decide | (simp only [maxLen]; omega) | (intros; omega), ?_⟩
          refine hK _ ?_
          clear hK K
          repeat first | refine thenN ?_ | refine thenX ?_ | refine thenR ?_ | refine blockN ?_ | refine blockR ?_ | refine blockX ?_ | refine blockM rfl ?_
          -- region 12
          refine AWp.rend E_ok [0, 1, 3, 4, 5, 6, 7, 9, 17, 30, 31, 32, 33, 44, 58] fun K hK => ?_
          simp [encRules_eq, encQry_eq, encRule_eq, h17, h33, hx, hxx]
          repeat refine ⟨by first | omega | assumption | decide | (simp only [maxLen]; omega) | (intros; omega), ?_⟩
          refine hK _ ?_
          clear hK K
          repeat first | refine thenN ?_ | refine thenX ?_ | refine thenR ?_ | refine blockN ?_ | refine blockR ?_ | refine blockX ?_ | refine blockM rfl ?_
          have hw : IntKind.i64.wrap ((k : Int) + 1) = (k : Int) + 1 := by rw [wrap_i64] <;> omega
          skip
          refine ⟨(thereB q (findR l q) (l.take (k + 1))), h33, hs, ?_, ?_⟩
          · first | rfl | skip
          · simp [Weak, TW, hw, encRules_eq, encQry_eq, encRule_eq, hi, List.take_add_one, hx, thereB_snoc, hfx, rule_beq]
    · try simp at h33
      obtain rfl : k = l.length := by omega
      refine AWp.exit ?_
      repeat first | refine thenN ?_ | refine thenX ?_ | refine thenR ?_ | refine blockN ?_ | refine blockR ?_ | refine blockX ?_ | refine blockM rfl ?_
      -- region 13
      refine AWp.rseq E_ok [0, 1, 3, 4, 5, 6, 7, 9, 17, 30, 31, 32, 33, 44, 58] fun K hK => ?_
      simp [encRules_eq, encQry_eq, encRule_eq, h17, h33]
      repeat refine ⟨by first | omega | assumption | decide | (simp only [maxLen]; omega) | (intros; omega), ?_⟩
      refine meet.of (law27_alive) ?_
      simp [encRules_eq, encQry_eq, encRule_eq, h17, h33]
      repeat refine ⟨by first | omega | assumption | decide | (simp only [maxLen]; omega) | (intros; omega), ?_⟩
      refine hK _ ?_
      clear hK K
      refine AWp.ret ?_
      repeat first | refine thenN ?_ | refine thenX ?_ | refine thenR ?_ | refine blockN ?_ | refine blockR ?_ | refine blockX ?_ | refine blockM rfl ?_
      first | (simp [RetOk, RV]; done) | (simp [RetOk, RV, hi, there_found]; done)
end Go.Proofs.Ytkdcnpdjmkoicaa

set_option maxRecDepth 100000
set_option linter.unusedSimpArgs false
set_option linter.unusedVariables false
namespace Go.Proofs.Ytkdcnpdjmkoicaa
open Go Ab Lib
theorem slices_IndexFunc_int_int (l : List Int) (f : Nat) (caps : List D) (p : Int → Bool) (hp : ∀ n, ACalls E.P f (.int .i64 n :: caps) (.d (.bool (p n)))) : ACalls E.P 52 [encInts l, .fn f caps] (.d (.int .i64 (idxF p 0 l))) := by
  refine ACalls.intro E_ok Try.func52 rfl rfl Try.ntmps52 Try.results52 (Nat.le_of_ble_eq_true rfl) fun hok base S0 w0 => ?_
  have hl : l.length ≤ 9223372036854775807 := by have := (Ok_slice (hok (encInts l) (by simp))).1; simpa using this
  -- region 0
  refine AWp.rseq E_ok [0, 1, 4, 5, 7, 8, 9, 16] fun K hK => ?_
  simp [encInts_eq]
  repeat refine ⟨by first | omega | assumption | decide | (simp only [maxLen]; omega) | (intros; omega), ?_⟩
  refine hK _ ?_
  clear hK K
  refine AWp.seq ?_
  -- region 1
  refine AWp.rseq E_ok [0, 1, 4, 5, 7, 8, 9, 16] fun K hK => ?_
  simp [encInts_eq]
  repeat refine ⟨by first | omega | assumption | decide | (simp only [maxLen]; omega) | (intros; omega), ?_⟩
  refine hK _ ?_
  clear hK K
  refine AWp.block ?_
  refine AWp.range (l := l) (F := idxF p) (tot := idxF p 0 l) (fun k y => match y with | i => i = (k : Int)) (fun k y => match y with | i => [(0, T.val (encInts l)), (1, T.val (.fn f caps)), (7, T.val (.int .i64 l.length)), (8, T.val (.int .i64 k))]) (0) ?_ rfl ?_ ?_
  · simp [Weak, TW, encInts_eq]
  · first | exact trivial | (simp; omega) | simp
  rintro k i hk hs hi
  try simp only at hi
  -- region 2
  refine AWp.rseq E_ok [0, 1, 4, 5, 7, 8, 9, 16] fun K hK => ?_
  simp [encInts_eq]
  repeat refine ⟨by first | omega | assumption | decide | (simp only [maxLen]; omega) | (intros; omega), ?_⟩
  refine hK _ ?_
  clear hK K
  refine AWp.seq ?_
  refine AWp.cond rfl (fun h9 => ?_) (fun h9 => ?_)
  · try simp at h9
    obtain ⟨x, hx, hxx, hd⟩ := at_indexG (l := l) h9
    rw [hd] at hs
    refine AWp.skip ?_
    repeat first | refine thenN ?_ | refine thenX ?_ | refine thenR ?_ | refine blockN ?_ | refine blockR ?_ | refine blockX ?_ | refine blockM rfl ?_
    refine AWp.seq ?_
    refine AWp.block ?_
    -- region 3
    refine AWp.rseq E_ok [0, 1, 4, 5, 7, 8, 9, 16] fun K hK => ?_
    simp [encInts_eq, h9, hx, hxx]
    repeat refine ⟨by first | omega | assumption | decide | (simp only [maxLen]; omega) | (intros; omega), ?_⟩
    refine hK _ ?_
    clear hK K
    -- region 4
    refine AWp.rseq E_ok [0, 1, 4, 5, 7, 8, 9, 16] fun K hK => ?_
    simp [encInts_eq, h9, hx, hxx]
    repeat refine ⟨by first | omega | assumption | decide | (simp only [maxLen]; omega) | (intros; omega), ?_⟩
    refine meet.of (hp x) ?_
    simp [encInts_eq, h9, hx, hxx]
    repeat refine ⟨by first | omega | assumption | decide | (simp only [maxLen]; omega) | (intros; omega), ?_⟩
    refine hK _ ?_
    clear hK K
    refine AWp.cond rfl (fun h16 => ?_) (fun h16 => ?_)
    · try simp at h16
      -- region 5
      refine AWp.rseq E_ok [0, 1, 4, 5, 7, 8, 9, 16] fun K hK => ?_
      simp [encInts_eq, h9, hx, hxx, h16]
      repeat refine ⟨by first | omega | assumption | decide | (simp only [maxLen]; omega) | (intros; omega), ?_⟩
      refine hK _ ?_
      clear hK K
      refine AWp.ret ?_
      repeat first | refine thenN ?_ | refine thenX ?_ | refine thenR ?_ | refine blockN ?_ | refine blockR ?_ | refine blockX ?_ | refine blockM rfl ?_
      simp [idxF, h16] at hs
      first | (simp [RetOk, RV, ← hs]; done) | (simp [RetOk, RV, ← hs, hi])
    · try simp at h16
      refine AWp.skip ?_
      repeat first | refine thenN ?_ | refine thenX ?_ | refine thenR ?_ | refine blockN ?_ | refine blockR ?_ | refine blockX ?_ | refine blockM rfl ?_
      -- region 6
      refine AWp.rend E_ok [0, 1, 4, 5, 7, 8, 9, 16] fun K hK => ?_
      simp [encInts_eq, h9, hx, hxx, h16]
      repeat refine ⟨by first | omega | assumption | decide | (simp only [maxLen]; omega) | (intros; omega), ?_⟩
      refine hK _ ?_
      clear hK K
      repeat first | refine thenN ?_ | refine thenX ?_ | refine thenR ?_ | refine blockN ?_ | refine blockR ?_ | refine blockX ?_ | refine blockM rfl ?_
      have hw : IntKind.i64.wrap ((k : Int) + 1) = (k : Int) + 1 := by rw [wrap_i64] <;> omega
      simp [idxF, h16] at hs
      refine ⟨_, h9, hs, ?_, ?_⟩
      · first | exact trivial | (simp; omega) | simp
      · simp [Weak, TW, hw, encInts_eq]
  · try simp at h9
    obtain rfl : k = l.length := by omega
    simp [idxF] at hs
    refine AWp.exit ?_
    repeat first | refine thenN ?_ | refine thenX ?_ | refine thenR ?_ | refine blockN ?_ | refine blockR ?_ | refine blockX ?_ | refine blockM rfl ?_
    -- region 7
    refine AWp.rseq E_ok [0, 1, 4, 5, 7, 8, 9, 16] fun K hK => ?_
    simp [encInts_eq, h9]
    repeat refine ⟨by first | omega | assumption | decide | (simp only [maxLen]; omega) | (intros; omega), ?_⟩
    refine hK _ ?_
    clear hK K
    refine AWp.ret ?_
    repeat first | refine thenN ?_ | refine thenX ?_ | refine thenR ?_ | refine blockN ?_ | refine blockR ?_ | refine blockX ?_ | refine blockM rfl ?_
    first | (simp [RetOk, RV, ← hs]; done) | (simp [RetOk, RV, ← hs, hi])
end Go.Proofs.Ytkdcnpdjmkoicaa

set_option maxRecDepth 100000
set_option linter.unusedSimpArgs false
set_option linter.unusedVariables false
namespace Go.Proofs.Ytkdcnpdjmkoicaa
open Go Ab Lib
theorem slices_ContainsFunc_int_int (l : List Int) (f : Nat) (caps : List D) (p : Int → Bool) (hp : ∀ n, ACalls E.P f (.int .i64 n :: caps) (.d (.bool (p n)))) : ACalls E.P 43 [encInts l, .fn f caps] (.d (.bool (l.any p))) := by
  refine ACalls.intro E_ok Try.func43 rfl rfl Try.ntmps43 Try.results43 (Nat.le_of_ble_eq_true rfl) fun hok base S0 w0 => ?_
  -- region 0
  refine AWp.rseq E_ok [0, 1, 4] fun K hK => ?_
  simp [encInts_eq]
  repeat refine ⟨by first | omega | assumption | decide | (simp only [maxLen]; omega) | (intros; omega), ?_⟩
  refine hK _ ?_
  clear hK K
  -- region 1
  refine AWp.rseq E_ok [0, 1, 4] fun K hK => ?_
  simp [encInts_eq]
  repeat refine ⟨by first | omega | assumption | decide | (simp only [maxLen]; omega) | (intros; omega), ?_⟩
  refine meet.of (slices_IndexFunc_int_int _ _ _ _ hp) ?_
  simp [encInts_eq]
  repeat refine ⟨by first | omega | assumption | decide | (simp only [maxLen]; omega) | (intros; omega), ?_⟩
  refine hK _ ?_
  clear hK K
  refine AWp.ret ?_
  repeat first | refine thenN ?_ | refine thenX ?_ | refine thenR ?_ | refine blockN ?_ | refine blockR ?_ | refine blockX ?_ | refine blockM rfl ?_
  simp [RetOk, RV, idxF_any]
end Go.Proofs.Ytkdcnpdjmkoicaa

set_option maxRecDepth 100000
set_option linter.unusedSimpArgs false
set_option linter.unusedVariables false
namespace Go.Proofs.Ytkdcnpdjmkoicaa
open Go Ab Lib
theorem calendar_Right_1 (n : Int) : ACalls E.P 44 [.int .i64 n] (.d (.bool (!isDay n))) := by
  refine ACalls.intro E_ok Try.func44 rfl rfl Try.ntmps44 Try.results44 (Nat.le_of_ble_eq_true rfl) fun hok base S0 w0 => ?_
  -- region 0
  refine AWp.rseq E_ok [0, 2] fun K hK => ?_
  simp
  repeat refine ⟨by first | omega | assumption | decide | (simp only [maxLen]; omega) | (intros; omega), ?_⟩
  refine hK _ ?_
  clear hK K
  -- region 1
  refine AWp.rseq E_ok [0, 2] fun K hK => ?_
  simp
  repeat refine ⟨by first | omega | assumption | decide | (simp only [maxLen]; omega) | (intros; omega), ?_⟩
  refine meet.of (calendar_isDay _) ?_
  simp
  repeat refine ⟨by first | omega | assumption | decide | (simp only [maxLen]; omega) | (intros; omega), ?_⟩
  refine hK _ ?_
  clear hK K
  refine AWp.ret ?_
  repeat first | refine thenN ?_ | refine thenX ?_ | refine thenR ?_ | refine blockN ?_ | refine blockR ?_ | refine blockX ?_ | refine blockM rfl ?_
  simp [RetOk, RV]
end Go.Proofs.Ytkdcnpdjmkoicaa

set_option maxRecDepth 100000
set_option linter.unusedSimpArgs false
set_option linter.unusedVariables false
namespace Go.Proofs.Ytkdcnpdjmkoicaa
open Go Ab Lib
theorem calendar_Right (c : Cal) : ACalls E.P 28 [encCal c] (.d (.int .i64 (calR c))) := by
  refine ACalls.intro E_ok Try.func28 rfl rfl Try.ntmps28 Try.results28 (Nat.le_of_ble_eq_true rfl) fun hok base S0 w0 => ?_
  have hl : c.closed.length ≤ 9223372036854775807 := cal_len (hok (encCal c) (by simp))
  -- region 0
  refine AWp.rseq E_ok [0, 1, 2, 3, 4, 5, 14, 19, 24, 25, 26, 27, 42] fun K hK => ?_
  simp [encCal_eq, encInts_eq]
  repeat refine ⟨by first | omega | assumption | decide | (simp only [maxLen]; omega) | (intros; omega), ?_⟩
  refine hK _ ?_
  clear hK K
  refine AWp.seq ?_
  refine AWp.block ?_
  -- region 1
  refine AWp.rseq E_ok [0, 1, 2, 3, 4, 5, 14, 19, 24, 25, 26, 27, 42] fun K hK => ?_
  simp [encCal_eq, encInts_eq]
  repeat refine ⟨by first | omega | assumption | decide | (simp only [maxLen]; omega) | (intros; omega), ?_⟩
  refine hK _ ?_
  clear hK K
  refine AWp.cond rfl (fun h5 => ?_) (fun h5 => ?_)
  · try simp at h5
    -- region 2
    refine AWp.rseq E_ok [0, 1, 2, 3, 4, 5, 14, 19, 24, 25, 26, 27, 42] fun K hK => ?_
    simp [encCal_eq, encInts_eq, h5]
    repeat refine ⟨by first | omega | assumption | decide | (simp only [maxLen]; omega) | (intros; omega), ?_⟩
    refine hK _ ?_
    clear hK K
    refine AWp.ret ?_
    repeat first | refine thenN ?_ | refine thenX ?_ | refine thenR ?_ | refine blockN ?_ | refine blockR ?_ | refine blockX ?_ | refine blockM rfl ?_
    first | (rw [cal1 h5]; simp [RetOk, RV]; done) | (rw [cal13 h5 h14]; simp [RetOk, RV]; done) | (rw [cal2 h5 h14 h19]; simp [RetOk, RV]; done) | (rw [calA h5 h14 h19]; simp [RetOk, RV, ← hs])
  · try simp at h5
    -- region 3
    refine AWp.rseq E_ok [0, 1, 2, 3, 4, 5, 14, 19, 24, 25, 26, 27, 42] fun K hK => ?_
    simp [encCal_eq, encInts_eq, h5]
    repeat refine ⟨by first | omega | assumption | decide | (simp only [maxLen]; omega) | (intros; omega), ?_⟩
    refine hK _ ?_
    clear hK K
    refine AWp.cond rfl (fun h14 => ?_) (fun h14 => ?_)
    · try simp at h14
      -- region 4
      refine AWp.rseq E_ok [0, 1, 2, 3, 4, 5, 14, 19, 24, 25, 26, 27, 42] fun K hK => ?_
      simp [encCal_eq, encInts_eq, h5, h14]
      repeat refine ⟨by first | omega | assumption | decide | (simp only [maxLen]; omega) | (intros; omega), ?_⟩
      refine hK _ ?_
      clear hK K
      refine AWp.ret ?_
      repeat first | refine thenN ?_ | refine thenX ?_ | refine thenR ?_ | refine blockN ?_ | refine blockR ?_ | refine blockX ?_ | refine blockM rfl ?_
      first | (rw [cal1 h5]; simp [RetOk, RV]; done) | (rw [cal13 h5 h14]; simp [RetOk, RV]; done) | (rw [cal2 h5 h14 h19]; simp [RetOk, RV]; done) | (rw [calA h5 h14 h19]; simp [RetOk, RV, ← hs])
    · try simp at h14
      -- region 5
      refine AWp.rseq E_ok [0, 1, 2, 3, 4, 5, 14, 19, 24, 25, 26, 27, 42] fun K hK => ?_
      simp [encCal_eq, encInts_eq, h5, h14]
      repeat refine ⟨by first | omega | assumption | decide | (simp only [maxLen]; omega) | (intros; omega), ?_⟩
      refine meet.of (slices_ContainsFunc_int_int c.closed 44 [] (fun n => !isDay n) (fun n => calendar_Right_1 n)) ?_
      simp [encCal_eq, encInts_eq, h5, h14]
      repeat refine ⟨by first | omega | assumption | decide | (simp only [maxLen]; omega) | (intros; omega), ?_⟩
      refine hK _ ?_
      clear hK K
      refine AWp.cond rfl (fun h19 => ?_) (fun h19 => ?_)
      · try simp at h19
        -- region 6
        refine AWp.rseq E_ok [0, 1, 2, 3, 4, 5, 14, 19, 24, 25, 26, 27, 42] fun K hK => ?_
        simp [encCal_eq, encInts_eq, h5, h14, h19]
        repeat refine ⟨by first | omega | assumption | decide | (simp only [maxLen]; omega) | (intros; omega), ?_⟩
        refine hK _ ?_
        clear hK K
        refine AWp.ret ?_
        repeat first | refine thenN ?_ | refine thenX ?_ | refine thenR ?_ | refine blockN ?_ | refine blockR ?_ | refine blockX ?_ | refine blockM rfl ?_
        first | (rw [cal1 h5]; simp [RetOk, RV]; done) | (rw [cal13 h5 h14]; simp [RetOk, RV]; done) | (rw [cal2 h5 h14 h19]; simp [RetOk, RV]; done) | (rw [calA h5 h14 h19]; simp [RetOk, RV, ← hs])
      · try simp at h19
        refine AWp.skip ?_
        repeat first | refine thenN ?_ | refine thenX ?_ | refine thenR ?_ | refine blockN ?_ | refine blockR ?_ | refine blockX ?_ | refine blockM rfl ?_
        refine AWp.seq ?_
        -- region 7
        refine AWp.rseq E_ok [0, 1, 2, 3, 4, 5, 14, 19, 24, 25, 26, 27, 42] fun K hK => ?_
        simp [encCal_eq, encInts_eq, h5, h14, h19]
        repeat refine ⟨by first | omega | assumption | decide | (simp only [maxLen]; omega) | (intros; omega), ?_⟩
        refine hK _ ?_
        clear hK K
        refine AWp.block ?_
        refine AWp.range (l := c.closed) (F := ascF) (tot := ascF none c.closed) (fun k y => match y with | pr => pr = if k = 0 then none else c.closed[k-1]?) (fun k y => match y with | pr => [(0, T.val (encCal c)), (1, T.box [C.d (.int .i64 c.week), C.d (encInts c.closed)]), (24, T.val (encInts c.closed)), (25, T.val (.int .i64 c.closed.length)), (26, T.val (.int .i64 k))]) (none) ?_ rfl ?_ ?_
        · simp [Weak, TW, encCal_eq, encInts_eq]
        · first | rfl | (simp [hx])
        rintro k pr hk hs hi
        try simp only at hi
        -- region 8
        refine AWp.rseq E_ok [0, 1, 2, 3, 4, 5, 14, 19, 24, 25, 26, 27, 42] fun K hK => ?_
        simp [encCal_eq, encInts_eq, h5, h14, h19]
        repeat refine ⟨by first | omega | assumption | decide | (simp only [maxLen]; omega) | (intros; omega), ?_⟩
        refine hK _ ?_
        clear hK K
        refine AWp.seq ?_
        refine AWp.cond rfl (fun h27 => ?_) (fun h27 => ?_)
        · try simp at h27
          obtain ⟨x, hx, hxx, hd⟩ := at_indexG (l := c.closed) h27
          rw [hd] at hs
          refine AWp.skip ?_
          repeat first | refine thenN ?_ | refine thenX ?_ | refine thenR ?_ | refine blockN ?_ | refine blockR ?_ | refine blockX ?_ | refine blockM rfl ?_
          refine AWp.seq ?_
          refine AWp.block ?_
          -- region 9
          refine AWp.rseq E_ok [0, 1, 2, 3, 4, 5, 14, 19, 24, 25, 26, 27, 42] fun K hK => ?_
          simp [encCal_eq, encInts_eq, h5, h14, h19, h27, hx, hxx]
          repeat refine ⟨by first | omega | assumption | decide | (simp only [maxLen]; omega) | (intros; omega), ?_⟩
          refine hK _ ?_
          clear hK K
          rcases Nat.eq_zero_or_pos k with hk0 | hk0
          · skip
            have hpr : pr = none := by simpa [hk0] using hi
            have hk1 : ¬ (0 < k) := by omega
            have hlo : lowId pr x = false := by rw [hpr]; rfl
            -- region 10
            refine AWp.rseq E_ok [0, 1, 2, 3, 4, 5, 14, 19, 24, 25, 26, 27, 42] fun K hK => ?_
            simp [encCal_eq, encInts_eq, h5, h14, h19, h27, hx, hxx, hk1]
            repeat refine ⟨by first | omega | assumption | decide | (simp only [maxLen]; omega) | (intros; omega), ?_⟩
            refine hK _ ?_
            clear hK K
            refine AWp.cond rfl (fun h42 => ?_) (fun h42 => ?_)
            · exact absurd h42 (by simp)
            · try simp at h42
              have hlo : lowId pr x = false := by rw [hpr]; first | rfl | simpa [lowId] using h42
              refine AWp.skip ?_
              repeat first | refine thenN ?_ | refine thenX ?_ | refine thenR ?_ | refine blockN ?_ | refine blockR ?_ | refine blockX ?_ | refine blockM rfl ?_
              -- region 12
              refine AWp.rend E_ok [0, 1, 2, 3, 4, 5, 14, 19, 24, 25, 26, 27, 42] fun K hK => ?_
              simp [encCal_eq, encInts_eq, h5, h14, h19, h27, hx, hxx, hk1, h42]
              repeat refine ⟨by first | omega | assumption | decide | (simp only [maxLen]; omega) | (intros; omega), ?_⟩
              refine hK _ ?_
              clear hK K
              repeat first | refine thenN ?_ | refine thenX ?_ | refine thenR ?_ | refine blockN ?_ | refine blockR ?_ | refine blockX ?_ | refine blockM rfl ?_
              have hw : IntKind.i64.wrap ((k : Int) + 1) = (k : Int) + 1 := by rw [wrap_i64] <;> omega
              simp [ascF, hlo] at hs
              refine ⟨_, h27, hs, ?_, ?_⟩
              · first | rfl | (simp [hx])
              · simp [Weak, TW, hw, encCal_eq, encInts_eq]
          · skip
            obtain ⟨j, hkj⟩ : ∃ j, k = j + 1 := ⟨k - 1, by omega⟩
            obtain ⟨y, hy1, hy2, _⟩ := at_indexG (l := c.closed) (k := j) (by omega)
            have hj0 : IntKind.i64.wrap ((k : Int) - 1) = (j : Int) := by rw [wrap_i64] <;> omega
            have hj1 : j < c.closed.length := by omega
            have hpr : pr = some y := by simpa [hkj, hy1] using hi
            -- region 10
            refine AWp.rseq E_ok [0, 1, 2, 3, 4, 5, 14, 19, 24, 25, 26, 27, 42] fun K hK => ?_
            simp [encCal_eq, encInts_eq, h5, h14, h19, h27, hx, hxx, hk0, hj0, hy1, hy2, hj1]
            repeat refine ⟨by first | omega | assumption | decide | (simp only [maxLen]; omega) | (intros; omega), ?_⟩
            refine hK _ ?_
            clear hK K
            refine AWp.cond rfl (fun h42 => ?_) (fun h42 => ?_)
            · try simp at h42
              have hlo : lowId pr x = true := by rw [hpr]; simpa [lowId] using h42
              -- region 11
              refine AWp.rseq E_ok [0, 1, 2, 3, 4, 5, 14, 19, 24, 25, 26, 27, 42] fun K hK => ?_
              simp [encCal_eq, encInts_eq, h5, h14, h19, h27, hx, hxx, hk0, hj0, hy1, hy2, hj1, h42]
              repeat refine ⟨by first | omega | assumption | decide | (simp only [maxLen]; omega) | (intros; omega), ?_⟩
              refine hK _ ?_
              clear hK K
              refine AWp.ret ?_
              repeat first | refine thenN ?_ | refine thenX ?_ | refine thenR ?_ | refine blockN ?_ | refine blockR ?_ | refine blockX ?_ | refine blockM rfl ?_
              first | simp [ascF, hlo] at hs | simp [ascF] at hs
              first | (rw [cal1 h5]; simp [RetOk, RV]; done) | (rw [cal13 h5 h14]; simp [RetOk, RV]; done) | (rw [cal2 h5 h14 h19]; simp [RetOk, RV]; done) | (rw [calA h5 h14 h19]; simp [RetOk, RV, ← hs])
            · try simp at h42
              have hlo : lowId pr x = false := by rw [hpr]; first | rfl | simpa [lowId] using h42
              refine AWp.skip ?_
              repeat first | refine thenN ?_ | refine thenX ?_ | refine thenR ?_ | refine blockN ?_ | refine blockR ?_ | refine blockX ?_ | refine blockM rfl ?_
              -- region 12
              refine AWp.rend E_ok [0, 1, 2, 3, 4, 5, 14, 19, 24, 25, 26, 27, 42] fun K hK => ?_
              simp [encCal_eq, encInts_eq, h5, h14, h19, h27, hx, hxx, hk0, hj0, hy1, hy2, hj1, h42]
              repeat refine ⟨by first | omega | assumption | decide | (simp only [maxLen]; omega) | (intros; omega), ?_⟩
              refine hK _ ?_
              clear hK K
              repeat first | refine thenN ?_ | refine thenX ?_ | refine thenR ?_ | refine blockN ?_ | refine blockR ?_ | refine blockX ?_ | refine blockM rfl ?_
              have hw : IntKind.i64.wrap ((k : Int) + 1) = (k : Int) + 1 := by rw [wrap_i64] <;> omega
              simp [ascF, hlo] at hs
              refine ⟨_, h27, hs, ?_, ?_⟩
              · first | rfl | (simp [hx])
              · simp [Weak, TW, hw, encCal_eq, encInts_eq]
        · try simp at h27
          obtain rfl : k = c.closed.length := by omega
          simp [ascF] at hs
          refine AWp.exit ?_
          repeat first | refine thenN ?_ | refine thenX ?_ | refine thenR ?_ | refine blockN ?_ | refine blockR ?_ | refine blockX ?_ | refine blockM rfl ?_
          -- region 13
          refine AWp.rseq E_ok [0, 1, 2, 3, 4, 5, 14, 19, 24, 25, 26, 27, 42] fun K hK => ?_
          simp [encCal_eq, encInts_eq, h5, h14, h19, h27]
          repeat refine ⟨by first | omega | assumption | decide | (simp only [maxLen]; omega) | (intros; omega), ?_⟩
          refine hK _ ?_
          clear hK K
          refine AWp.ret ?_
          repeat first | refine thenN ?_ | refine thenX ?_ | refine thenR ?_ | refine blockN ?_ | refine blockR ?_ | refine blockX ?_ | refine blockM rfl ?_
          first | (rw [cal1 h5]; simp [RetOk, RV]; done) | (rw [cal13 h5 h14]; simp [RetOk, RV]; done) | (rw [cal2 h5 h14 h19]; simp [RetOk, RV]; done) | (rw [calA h5 h14 h19]; simp [RetOk, RV, ← hs])
end Go.Proofs.Ytkdcnpdjmkoicaa

set_option maxRecDepth 100000
set_option linter.unusedSimpArgs false
set_option linter.unusedVariables false
namespace Go.Proofs.Ytkdcnpdjmkoicaa
open Go Ab Lib
theorem law27_PolicyOpens (r : Rule) (c : Cal) (x : Days) : ACalls E.P 10 [encRule r, encCal c, encDays x] (.d (.bool true)) := by
  refine ACalls.intro E_ok Try.func10 rfl rfl Try.ntmps10 Try.results10 (Nat.le_of_ble_eq_true rfl) fun hok base S0 w0 => ?_
  -- region 0
  refine AWp.rseq E_ok [0, 1, 2, 3, 4, 5, 6, 7, 8, 9, 23, 36, 68, 77, 88] fun K hK => ?_
  simp [encRule_eq, encCal_eq, encInts_eq, encDays_eq]
  repeat refine ⟨by first | omega | assumption | decide | (simp only [maxLen]; omega) | (intros; omega), ?_⟩
  refine hK _ ?_
  clear hK K
  refine AWp.seq ?_
  -- region 1
  refine AWp.rseq E_ok [0, 1, 2, 3, 4, 5, 6, 7, 8, 9, 23, 36, 68, 77, 88] fun K hK => ?_
  simp [encRule_eq, encCal_eq, encInts_eq, encDays_eq]
  repeat refine ⟨by first | omega | assumption | decide | (simp only [maxLen]; omega) | (intros; omega), ?_⟩
  refine meet.of (ref27_RightRule r) ?_
  simp [encRule_eq, encCal_eq, encInts_eq, encDays_eq]
  repeat refine ⟨by first | omega | assumption | decide | (simp only [maxLen]; omega) | (intros; omega), ?_⟩
  refine meet.of (calendar_Right c) ?_
  simp [encRule_eq, encCal_eq, encInts_eq, encDays_eq]
  repeat refine ⟨by first | omega | assumption | decide | (simp only [maxLen]; omega) | (intros; omega), ?_⟩
  refine hK _ ?_
  clear hK K
  refine AWp.cond rfl (fun h23 => ?_) (fun h23 => ?_)
  · try simp at h23
    -- region 2
    refine AWp.rseq E_ok [0, 1, 2, 3, 4, 5, 6, 7, 8, 9, 23, 36, 68, 77, 88] fun K hK => ?_
    simp [encRule_eq, encCal_eq, encInts_eq, encDays_eq, h23]
    repeat refine ⟨by first | omega | assumption | decide | (simp only [maxLen]; omega) | (intros; omega), ?_⟩
    refine meet.of (law27_alive) ?_
    simp [encRule_eq, encCal_eq, encInts_eq, encDays_eq, h23]
    repeat refine ⟨by first | omega | assumption | decide | (simp only [maxLen]; omega) | (intros; omega), ?_⟩
    refine hK _ ?_
    clear hK K
    refine AWp.ret ?_
    repeat first | refine thenN ?_ | refine thenX ?_ | refine thenR ?_ | refine blockN ?_ | refine blockR ?_ | refine blockX ?_ | refine blockM rfl ?_
    first | (simp [RetOk, RV]; done) | (simp [RetOk, RV, h0]; done) | (simp [RetOk, RV]; rw [hda]; simp only [minI, lastR]; (repeat' split) <;> omega)
  · try simp at h23
    have hd := due_open (c := c) (d := x.day) (u := x.til) h23.1.1
    refine AWp.skip ?_
    repeat first | refine thenN ?_ | refine thenX ?_ | refine thenR ?_ | refine blockN ?_ | refine blockR ?_ | refine blockX ?_ | refine blockM rfl ?_
    -- region 3
    refine AWp.rseq E_ok [0, 1, 2, 3, 4, 5, 6, 7, 8, 9, 23, 36, 68, 77, 88] fun K hK => ?_
    simp [encRule_eq, encCal_eq, encInts_eq, encDays_eq, h23]
    repeat refine ⟨by first | omega | assumption | decide | (simp only [maxLen]; omega) | (intros; omega), ?_⟩
    refine meet.of (policy_Due r c x.day x.til h23.2) ?_
    simp [encRule_eq, encCal_eq, encInts_eq, encDays_eq, h23]
    repeat refine ⟨by first | omega | assumption | decide | (simp only [maxLen]; omega) | (intros; omega), ?_⟩
    refine hK _ ?_
    clear hK K
    refine AWp.seq ?_
    -- region 4
    refine AWp.rseq E_ok [0, 1, 2, 3, 4, 5, 6, 7, 8, 9, 23, 36, 68, 77, 88] fun K hK => ?_
    simp [encRule_eq, encCal_eq, encInts_eq, encDays_eq, h23]
    repeat refine ⟨by first | omega | assumption | decide | (simp only [maxLen]; omega) | (intros; omega), ?_⟩
    refine hK _ ?_
    clear hK K
    refine AWp.cond rfl (fun h36 => ?_) (fun h36 => ?_)
    · try simp at h36
      have h0 := hd.1 h36
      -- region 5
      refine AWp.rseq E_ok [0, 1, 2, 3, 4, 5, 6, 7, 8, 9, 23, 36, 68, 77, 88] fun K hK => ?_
      simp [encRule_eq, encCal_eq, encInts_eq, encDays_eq, h23]
      repeat refine ⟨by first | omega | assumption | decide | (simp only [maxLen]; omega) | (intros; omega), ?_⟩
      refine meet.of (law27_alive) ?_
      simp [encRule_eq, encCal_eq, encInts_eq, encDays_eq, h23]
      repeat refine ⟨by first | omega | assumption | decide | (simp only [maxLen]; omega) | (intros; omega), ?_⟩
      refine hK _ ?_
      clear hK K
      refine AWp.ret ?_
      repeat first | refine thenN ?_ | refine thenX ?_ | refine thenR ?_ | refine blockN ?_ | refine blockR ?_ | refine blockX ?_ | refine blockM rfl ?_
      first | (simp [RetOk, RV]; done) | (simp [RetOk, RV, h0]; done) | (simp [RetOk, RV]; rw [hda]; simp only [minI, lastR]; (repeat' split) <;> omega)
    · try simp at h36
      have hg := hd.2 h36
      refine AWp.skip ?_
      repeat first | refine thenN ?_ | refine thenX ?_ | refine thenR ?_ | refine blockN ?_ | refine blockR ?_ | refine blockX ?_ | refine blockM rfl ?_
      refine AWp.seq ?_
      -- region 6
      refine AWp.rseq E_ok [0, 1, 2, 3, 4, 5, 6, 7, 8, 9, 23, 36, 68, 77, 88] fun K hK => ?_
      simp [encRule_eq, encCal_eq, encInts_eq, encDays_eq, h23]
      repeat refine ⟨by first | omega | assumption | decide | (simp only [maxLen]; omega) | (intros; omega), ?_⟩
      refine meet.of (calendar_Open c (dueR r c x.day x.til).1 h23.2) ?_
      simp [encRule_eq, encCal_eq, encInts_eq, encDays_eq, h23]
      repeat refine ⟨by first | omega | assumption | decide | (simp only [maxLen]; omega) | (intros; omega), ?_⟩
      refine hK _ ?_
      clear hK K
      refine AWp.cond rfl (fun h68 => ?_) (fun h68 => ?_)
      · try simp at h68
        rcases h68 with ((h | h) | h) | h; omega; omega; have := hg.2.2.1 h.1; omega; rw [hg.2.2.2] at h; cases h
      · try simp at h68
        refine AWp.skip ?_
        repeat first | refine thenN ?_ | refine thenX ?_ | refine thenR ?_ | refine blockN ?_ | refine blockR ?_ | refine blockX ?_ | refine blockM rfl ?_
        refine AWp.seq ?_
        -- region 8
        refine AWp.rseq E_ok [0, 1, 2, 3, 4, 5, 6, 7, 8, 9, 23, 36, 68, 77, 88] fun K hK => ?_
        simp [encRule_eq, encCal_eq, encInts_eq, encDays_eq, h23]
        repeat refine ⟨by first | omega | assumption | decide | (simp only [maxLen]; omega) | (intros; omega), ?_⟩
        refine hK _ ?_
        clear hK K
        refine AWp.cond rfl (fun h77 => ?_) (fun h77 => ?_)
        · try simp at h77
          have hcl : c.closed = [] := by simpa using h77.2
          have hda := due_all (d := x.day) (u := x.til) h23.1.1 h77.1 hcl h36
          -- region 9
          refine AWp.rseq E_ok [0, 1, 2, 3, 4, 5, 6, 7, 8, 9, 23, 36, 68, 77, 88] fun K hK => ?_
          simp [encRule_eq, encCal_eq, encInts_eq, encDays_eq, h23]
          repeat refine ⟨by first | omega | assumption | decide | (simp only [maxLen]; omega) | (intros; omega), ?_⟩
          refine hK _ ?_
          clear hK K
          refine AWp.seq ?_
          -- region 10
          refine AWp.rseq E_ok [0, 1, 2, 3, 4, 5, 6, 7, 8, 9, 23, 36, 68, 77, 88] fun K hK => ?_
          simp [encRule_eq, encCal_eq, encInts_eq, encDays_eq, h23]
          repeat refine ⟨by first | omega | assumption | decide | (simp only [maxLen]; omega) | (intros; omega), ?_⟩
          refine hK _ ?_
          clear hK K
          refine AWp.cond rfl (fun h88 => ?_) (fun h88 => ?_)
          · try simp at h88
            -- region 11
            refine AWp.rend E_ok [0, 1, 2, 3, 4, 5, 6, 7, 8, 9, 23, 36, 68, 77, 88] fun K hK => ?_
            simp [encRule_eq, encCal_eq, encInts_eq, encDays_eq, h23, h88]
            repeat refine ⟨by first | omega | assumption | decide | (simp only [maxLen]; omega) | (intros; omega), ?_⟩
            refine hK _ ?_
            clear hK K
            repeat first | refine thenN ?_ | refine thenX ?_ | refine thenR ?_ | refine blockN ?_ | refine blockR ?_ | refine blockX ?_ | refine blockM rfl ?_
            -- region 12
            refine AWp.rseq E_ok [0, 1, 2, 3, 4, 5, 6, 7, 8, 9, 23, 36, 68, 77, 88] fun K hK => ?_
            simp [encRule_eq, encCal_eq, encInts_eq, encDays_eq, h23, h88]
            repeat refine ⟨by first | omega | assumption | decide | (simp only [maxLen]; omega) | (intros; omega), ?_⟩
            refine meet.of (law27_alive) ?_
            simp [encRule_eq, encCal_eq, encInts_eq, encDays_eq, h23, h88]
            repeat refine ⟨by first | omega | assumption | decide | (simp only [maxLen]; omega) | (intros; omega), ?_⟩
            refine hK _ ?_
            clear hK K
            refine AWp.ret ?_
            repeat first | refine thenN ?_ | refine thenX ?_ | refine thenR ?_ | refine blockN ?_ | refine blockR ?_ | refine blockX ?_ | refine blockM rfl ?_
            first | (simp [RetOk, RV]; done) | (simp [RetOk, RV, h0]; done) | (simp [RetOk, RV]; rw [hda]; simp only [minI, lastR]; (repeat' split) <;> omega)
          · try simp at h88
            refine AWp.skip ?_
            repeat first | refine thenN ?_ | refine thenX ?_ | refine thenR ?_ | refine blockN ?_ | refine blockR ?_ | refine blockX ?_ | refine blockM rfl ?_
            -- region 12
            refine AWp.rseq E_ok [0, 1, 2, 3, 4, 5, 6, 7, 8, 9, 23, 36, 68, 77, 88] fun K hK => ?_
            simp [encRule_eq, encCal_eq, encInts_eq, encDays_eq, h23, h88]
            repeat refine ⟨by first | omega | assumption | decide | (simp only [maxLen]; omega) | (intros; omega), ?_⟩
            refine meet.of (law27_alive) ?_
            simp [encRule_eq, encCal_eq, encInts_eq, encDays_eq, h23, h88]
            repeat refine ⟨by first | omega | assumption | decide | (simp only [maxLen]; omega) | (intros; omega), ?_⟩
            refine hK _ ?_
            clear hK K
            refine AWp.ret ?_
            repeat first | refine thenN ?_ | refine thenX ?_ | refine thenR ?_ | refine blockN ?_ | refine blockR ?_ | refine blockX ?_ | refine blockM rfl ?_
            first | (simp [RetOk, RV]; done) | (simp [RetOk, RV, h0]; done) | (simp [RetOk, RV]; rw [hda]; simp only [minI, lastR]; (repeat' split) <;> omega)
        · try simp at h77
          refine AWp.skip ?_
          repeat first | refine thenN ?_ | refine thenX ?_ | refine thenR ?_ | refine blockN ?_ | refine blockR ?_ | refine blockX ?_ | refine blockM rfl ?_
          -- region 13
          refine AWp.rseq E_ok [0, 1, 2, 3, 4, 5, 6, 7, 8, 9, 23, 36, 68, 77, 88] fun K hK => ?_
          simp [encRule_eq, encCal_eq, encInts_eq, encDays_eq, h23]
          repeat refine ⟨by first | omega | assumption | decide | (simp only [maxLen]; omega) | (intros; omega), ?_⟩
          refine meet.of (law27_alive) ?_
          simp [encRule_eq, encCal_eq, encInts_eq, encDays_eq, h23]
          repeat refine ⟨by first | omega | assumption | decide | (simp only [maxLen]; omega) | (intros; omega), ?_⟩
          refine hK _ ?_
          clear hK K
          refine AWp.ret ?_
          repeat first | refine thenN ?_ | refine thenX ?_ | refine thenR ?_ | refine blockN ?_ | refine blockR ?_ | refine blockX ?_ | refine blockM rfl ?_
          first | (simp [RetOk, RV]; done) | (simp [RetOk, RV, h0]; done) | (simp [RetOk, RV]; rw [hda]; simp only [minI, lastR]; (repeat' split) <;> omega)
end Go.Proofs.Ytkdcnpdjmkoicaa
