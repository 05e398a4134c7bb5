/-
  What the functions compute that the statement reaches: contracts, and the plain laws between them. Conditions stand at each theorem.
-/
import Derived.Test.YtkdcnpdjmkoicaaWalkOne
set_option linter.unusedVariables false
set_option linter.unusedSimpArgs false
set_option maxRecDepth 100000
set_option linter.unusedSimpArgs false
set_option linter.unusedVariables false
namespace Go.Proofs.Ytkdcnpdjmkoicaa
open Go Ab Lib
theorem ref27_RightRule (r : Rule) : ACalls E.P 18 [encRule r] (.d (.bool (limR r))) := by
  refine ACalls.intro E_ok Try.func18 rfl rfl Try.ntmps18 Try.results18 (Nat.le_of_ble_eq_true rfl) fun hok base S0 w0 => ?_
  -- region 0
  refine AWp.rseq E_ok [0, 1, 2, 3, 4, 5] fun K hK => ?_
  simp [encRule_eq]
  repeat refine ⟨by first | omega | assumption | decide | (simp only [maxLen]; omega) | (intros; omega), ?_⟩
  refine hK _ ?_
  clear hK K
  -- region 1
  refine AWp.rseq E_ok [0, 1, 2, 3, 4, 5] fun K hK => ?_
  simp [encRule_eq]
  repeat refine ⟨by first | omega | assumption | decide | (simp only [maxLen]; omega) | (intros; omega), ?_⟩
  refine meet.of (ref27_within _ _ _) ?_
  simp [encRule_eq]
  repeat refine ⟨by first | omega | assumption | decide | (simp only [maxLen]; omega) | (intros; omega), ?_⟩
  refine meet.of (ref27_within _ _ _) ?_
  simp [encRule_eq]
  repeat refine ⟨by first | omega | assumption | decide | (simp only [maxLen]; omega) | (intros; omega), ?_⟩
  refine meet.of (ref27_within _ _ _) ?_
  simp [encRule_eq]
  repeat refine ⟨by first | omega | assumption | decide | (simp only [maxLen]; omega) | (intros; omega), ?_⟩
  refine hK _ ?_
  clear hK K
  -- region 2
  refine AWp.rseq E_ok [0, 1, 2, 3, 4, 5] fun K hK => ?_
  simp [encRule_eq]
  repeat refine ⟨by first | omega | assumption | decide | (simp only [maxLen]; omega) | (intros; omega), ?_⟩
  refine meet.of (ref27_within _ _ _) ?_
  simp [encRule_eq]
  repeat refine ⟨by first | omega | assumption | decide | (simp only [maxLen]; omega) | (intros; omega), ?_⟩
  refine meet.of (ref27_within _ _ _) ?_
  simp [encRule_eq]
  repeat refine ⟨by first | omega | assumption | decide | (simp only [maxLen]; omega) | (intros; omega), ?_⟩
  refine meet.of (ref27_within _ _ _) ?_
  simp [encRule_eq]
  repeat refine ⟨by first | omega | assumption | decide | (simp only [maxLen]; omega) | (intros; omega), ?_⟩
  refine hK _ ?_
  clear hK K
  -- region 3
  refine AWp.rseq E_ok [0, 1, 2, 3, 4, 5] fun K hK => ?_
  simp [encRule_eq]
  repeat refine ⟨by first | omega | assumption | decide | (simp only [maxLen]; omega) | (intros; omega), ?_⟩
  refine meet.of (ref27_within _ _ _) ?_
  simp [encRule_eq]
  repeat refine ⟨by first | omega | assumption | decide | (simp only [maxLen]; omega) | (intros; omega), ?_⟩
  refine meet.of (ref27_within _ _ _) ?_
  simp [encRule_eq]
  repeat refine ⟨by first | omega | assumption | decide | (simp only [maxLen]; omega) | (intros; omega), ?_⟩
  refine meet.of (ref27_within _ _ _) ?_
  simp [encRule_eq]
  repeat refine ⟨by first | omega | assumption | decide | (simp only [maxLen]; omega) | (intros; omega), ?_⟩
  refine hK _ ?_
  clear hK K
  -- region 4
  refine AWp.rseq E_ok [0, 1, 2, 3, 4, 5] fun K hK => ?_
  simp [encRule_eq]
  repeat refine ⟨by first | omega | assumption | decide | (simp only [maxLen]; omega) | (intros; omega), ?_⟩
  refine meet.of (ref27_within _ _ _) ?_
  simp [encRule_eq]
  repeat refine ⟨by first | omega | assumption | decide | (simp only [maxLen]; omega) | (intros; omega), ?_⟩
  refine meet.of (ref27_within _ _ _) ?_
  simp [encRule_eq]
  repeat refine ⟨by first | omega | assumption | decide | (simp only [maxLen]; omega) | (intros; omega), ?_⟩
  refine meet.of (ref27_within _ _ _) ?_
  simp [encRule_eq]
  repeat refine ⟨by first | omega | assumption | decide | (simp only [maxLen]; omega) | (intros; omega), ?_⟩
  refine meet.of (ref27_within _ _ _) ?_
  simp [encRule_eq]
  repeat refine ⟨by first | omega | assumption | decide | (simp only [maxLen]; omega) | (intros; omega), ?_⟩
  refine hK _ ?_
  clear hK K
  refine AWp.ret ?_
  repeat first | refine thenN ?_ | refine thenX ?_ | refine thenR ?_ | refine blockN ?_ | refine blockR ?_ | refine blockX ?_ | refine blockM rfl ?_
  rw [← limR2_eq]; simp [RetOk, RV, limR2]
end Go.Proofs.Ytkdcnpdjmkoicaa

set_option maxRecDepth 100000
set_option linter.unusedSimpArgs false
set_option linter.unusedVariables false
namespace Go.Proofs.Ytkdcnpdjmkoicaa
open Go Ab Lib
theorem ref27_Right (l : List Rule) : ACalls E.P 12 [encRules l] (.d (.int .i64 (rulesR l))) := by
  refine ACalls.intro E_ok Try.func12 rfl rfl Try.ntmps12 Try.results12 (Nat.le_of_ble_eq_true rfl) fun hok base S0 w0 => ?_
  have hl : l.length ≤ 9223372036854775807 := rules_len (hok (encRules l) (by simp))
  -- region 0
  refine AWp.rseq E_ok [0, 2, 3, 4, 7, 11, 19, 22, 61] fun K hK => ?_
  simp [encRules_eq]
  repeat refine ⟨by first | omega | assumption | decide | (simp only [maxLen]; omega) | (intros; omega), ?_⟩
  refine hK _ ?_
  clear hK K
  refine AWp.seq ?_
  -- region 1
  refine AWp.rseq E_ok [0, 2, 3, 4, 7, 11, 19, 22, 61] fun K hK => ?_
  simp [encRules_eq]
  repeat refine ⟨by first | omega | assumption | decide | (simp only [maxLen]; omega) | (intros; omega), ?_⟩
  refine hK _ ?_
  clear hK K
  refine AWp.cond rfl (fun h7 => ?_) (fun h7 => ?_)
  · try simp at h7
    -- region 2
    refine AWp.rseq E_ok [0, 2, 3, 4, 7, 11, 19, 22, 61] fun K hK => ?_
    simp [encRules_eq, h7]
    repeat refine ⟨by first | omega | assumption | decide | (simp only [maxLen]; omega) | (intros; omega), ?_⟩
    refine hK _ ?_
    clear hK K
    refine AWp.ret ?_
    repeat first | refine thenN ?_ | refine thenX ?_ | refine thenR ?_ | refine blockN ?_ | refine blockR ?_ | refine blockX ?_ | refine blockM rfl ?_
    first | (rw [rulesR_full h7]; simp [RetOk, RV]; done) | (rw [rulesR_ok h7]; simp [RetOk, RV, ← hs])
  · try simp at h7
    refine AWp.skip ?_
    repeat first | refine thenN ?_ | refine thenX ?_ | refine thenR ?_ | refine blockN ?_ | refine blockR ?_ | refine blockX ?_ | refine blockM rfl ?_
    refine AWp.seq ?_
    -- region 3
    refine AWp.rseq E_ok [0, 2, 3, 4, 7, 11, 19, 22, 61] fun K hK => ?_
    simp [encRules_eq, h7]
    repeat refine ⟨by first | omega | assumption | decide | (simp only [maxLen]; omega) | (intros; omega), ?_⟩
    refine hK _ ?_
    clear hK K
    refine AWp.block ?_
    refine AWp.range (l := l) (F := rulesF) (tot := rulesF [] l) (fun k y => match y with | p => p = l.take k) (fun k y => match y with | p => [(0, T.val ((encRule zr).slice (List.map encRule l))), (3, T.val (.int .i64 k))]) ([]) ?_ rfl ?_ ?_
    · simp [Weak, TW, encRules_eq]
    · first | rfl | (rw [List.take_add_one]; simp [hx])
    rintro k p hk hs hi
    try simp only at hi
    refine AWp.seq ?_
    -- region 4
    refine AWp.rseq E_ok [0, 2, 3, 4, 7, 11, 19, 22, 61] fun K hK => ?_
    simp [encRules_eq, h7]
    repeat refine ⟨by first | omega | assumption | decide | (simp only [maxLen]; omega) | (intros; omega), ?_⟩
    refine hK _ ?_
    clear hK K
    refine AWp.cond rfl (fun h11 => ?_) (fun h11 => ?_)
    · try simp at h11
      obtain ⟨x, hx, hxx, hd⟩ := at_indexG (l := l) h11
      rw [hd] at hs
      subst hi
      refine AWp.skip ?_
      repeat first | refine thenN ?_ | refine thenX ?_ | refine thenR ?_ | refine blockN ?_ | refine blockR ?_ | refine blockX ?_ | refine blockM rfl ?_
      refine AWp.seq ?_
      refine AWp.block ?_
      refine AWp.seq ?_
      -- region 6
      refine AWp.rseq E_ok [0, 2, 3, 4, 7, 11, 19, 22, 61] fun K hK => ?_
      simp [encRules_eq, h7, h11, hx, hxx]
      repeat refine ⟨by first | omega | assumption | decide | (simp only [maxLen]; omega) | (intros; omega), ?_⟩
      refine meet.of (ref27_RightRule x) ?_
      simp [encRules_eq, h7, h11, hx, hxx]
      repeat refine ⟨by first | omega | assumption | decide | (simp only [maxLen]; omega) | (intros; omega), ?_⟩
      refine hK _ ?_
      clear hK K
      refine AWp.cond rfl (fun h19 => ?_) (fun h19 => ?_)
      · try simp at h19
        -- region 7
        refine AWp.rseq E_ok [0, 2, 3, 4, 7, 11, 19, 22, 61] fun K hK => ?_
        simp [encRules_eq, h7, h11, hx, hxx, h19]
        repeat refine ⟨by first | omega | assumption | decide | (simp only [maxLen]; omega) | (intros; omega), ?_⟩
        refine hK _ ?_
        clear hK K
        refine AWp.ret ?_
        repeat first | refine thenN ?_ | refine thenX ?_ | refine thenR ?_ | refine blockN ?_ | refine blockR ?_ | refine blockX ?_ | refine blockM rfl ?_
        first | simp [rulesF, h19, hany] at hs | simp [rulesF, h19] at hs | simp [rulesF] at hs
        first | (rw [rulesR_full h7]; simp [RetOk, RV]; done) | (rw [rulesR_ok h7]; simp [RetOk, RV, ← hs])
      · try simp at h19
        refine AWp.skip ?_
        repeat first | refine thenN ?_ | refine thenX ?_ | refine thenR ?_ | refine blockN ?_ | refine blockR ?_ | refine blockX ?_ | refine blockM rfl ?_
        -- region 8
        refine AWp.rseq E_ok [0, 2, 3, 4, 7, 11, 19, 22, 61] fun K hK => ?_
        simp [encRules_eq, h7, h11, hx, hxx, h19]
        repeat refine ⟨by first | omega | assumption | decide | (simp only [maxLen]; omega) | (intros; omega), ?_⟩
        refine hK _ ?_
        clear hK K
        refine AWp.block ?_
        refine AWp.range (l := (l.take k)) (F := anyT (keyB x)) (tot := anyT (keyB x) () (l.take k)) (fun k1 y => match y with | u => True) (fun k1 y => match y with | u => [(0, T.val ((encRule zr).slice (List.map encRule l))), (3, T.val (D.int IntKind.i64 ↑k)), (4, T.val (.int .i64 k1))]) () ?_ rfl ?_ ?_
        · simp [Weak, TW, encRules_eq]
        · first | exact trivial | (simp; omega) | simp
        rintro k1 u hk1 hs1 hi1
        try simp only at hi1
        refine AWp.seq ?_
        -- region 9
        refine AWp.rseq E_ok [0, 2, 3, 4, 7, 11, 19, 22, 61] fun K hK => ?_
        simp [encRules_eq, h7, h11, hx, hxx, h19]
        repeat refine ⟨by first | omega | assumption | decide | (simp only [maxLen]; omega) | (intros; omega), ?_⟩
        refine hK _ ?_
        clear hK K
        refine AWp.cond rfl (fun h22 => ?_) (fun h22 => ?_)
        · try simp at h22
          have hlt : k1 < (l.take k).length := by simp; omega
          obtain ⟨x1, hx1, hxx1, hd1⟩ := at_indexG (l := (l.take k)) hlt
          rw [hd1] at hs1
          have hx1' : l[k1]? = some x1 := by have hh := hx1; rw [List.getElem?_take_of_lt (by omega)] at hh; exact hh
          have hx1'' : l[k1]'(by omega) = x1 := (List.getElem?_eq_some_iff.1 hx1').2
          refine AWp.skip ?_
          repeat first | refine thenN ?_ | refine thenX ?_ | refine thenR ?_ | refine blockN ?_ | refine blockR ?_ | refine blockX ?_ | refine blockM rfl ?_
          refine AWp.seq ?_
          refine AWp.block ?_
          -- region 11
          refine AWp.rseqQ E_ok mixed [0, 2, 3, 4, 7, 11, 19, 22, 61] (by kernel_rfl) fun K hK => ?_
          simp [encRules_eq, h7, h11, hx, hxx, h19, h22, hx1, hxx1, hx1', hx1'']
          repeat refine ⟨by first | omega | assumption | decide | (simp only [maxLen]; omega) | (intros; omega), ?_⟩
          refine hK _ ?_
          clear hK K
          refine AWp.cond rfl (fun h61 => ?_) (fun h61 => ?_)
          · try simp at h61
            have hc : keyB x x1 = true := by simpa [keyB, and_assoc] using h61
            have hany : (l.take k).any (keyB x) = true := List.any_eq_true.2 ⟨x1, List.mem_of_getElem? hx1, hc⟩
            -- region 12
            refine AWp.rseq E_ok [0, 2, 3, 4, 7, 11, 19, 22, 61] fun K hK => ?_
            simp [encRules_eq, h7, h11, hx, hxx, h19, h22, hx1, hxx1, hx1', hx1'', h61]
            repeat refine ⟨by first | omega | assumption | decide | (simp only [maxLen]; omega) | (intros; omega), ?_⟩
            refine hK _ ?_
            clear hK K
            refine AWp.ret ?_
            repeat first | refine thenN ?_ | refine thenX ?_ | refine thenR ?_ | refine blockN ?_ | refine blockR ?_ | refine blockX ?_ | refine blockM rfl ?_
            first | simp [anyT, hc] at hs1 | simp [anyT] at hs1
            first | simp [rulesF, h19, hany] at hs | simp [rulesF, h19] at hs | simp [rulesF] at hs
            first | (rw [rulesR_full h7]; simp [RetOk, RV]; done) | (rw [rulesR_ok h7]; simp [RetOk, RV, ← hs])
          · try simp at h61
            have hc : keyB x x1 = false := by simp [keyB]; intro a b; exact h61 a b
            refine AWp.skip ?_
            repeat first | refine thenN ?_ | refine thenX ?_ | refine thenR ?_ | refine blockN ?_ | refine blockR ?_ | refine blockX ?_ | refine blockM rfl ?_
            -- region 10
            refine AWp.rend E_ok [0, 2, 3, 4, 7, 11, 19, 22, 61] fun K hK => ?_
            simp [encRules_eq, h7, h11, hx, hxx, h19, h22, hx1, hxx1, hx1', hx1'', h61]
            repeat refine ⟨by first | omega | assumption | decide | (simp only [maxLen]; omega) | (intros; omega), ?_⟩
            refine hK _ ?_
            clear hK K
            repeat first | refine thenN ?_ | refine thenX ?_ | refine thenR ?_ | refine blockN ?_ | refine blockR ?_ | refine blockX ?_ | refine blockM rfl ?_
            have hw1 : IntKind.i64.wrap ((k1 : Int) + 1) = (k1 : Int) + 1 := by rw [wrap_i64] <;> omega
            simp [anyT, hc] at hs1
            refine ⟨_, hlt, hs1, ?_, ?_⟩
            · first | exact trivial | (simp; omega) | simp
            · simp [Weak, TW, hw1, encRules_eq]
        · try simp at h22
          have hz : (l.take k).drop k1 = [] := List.drop_eq_nil_of_le (by simp; omega)
          rw [hz] at hs1
          simp [anyT] at hs1
          refine AWp.exit ?_
          repeat first | refine thenN ?_ | refine thenX ?_ | refine thenR ?_ | refine blockN ?_ | refine blockR ?_ | refine blockX ?_ | refine blockM rfl ?_
          -- region 5
          have hany : (l.take k).any (keyB x) = false := by rw [← anyT_any]; first | exact hs1 | exact hs1.symm
          refine AWp.rend E_ok [0, 2, 3, 4, 7, 11, 19, 22, 61] fun K hK => ?_
          simp [encRules_eq, h7, h11, hx, hxx, h19, h22]
          repeat refine ⟨by first | omega | assumption | decide | (simp only [maxLen]; omega) | (intros; omega), ?_⟩
          refine hK _ ?_
          clear hK K
          repeat first | refine thenN ?_ | refine thenX ?_ | refine thenR ?_ | refine blockN ?_ | refine blockR ?_ | refine blockX ?_ | refine blockM rfl ?_
          have hw : IntKind.i64.wrap ((k : Int) + 1) = (k : Int) + 1 := by rw [wrap_i64] <;> omega
          simp [rulesF, h19, hany] at hs
          refine ⟨_, h11, hs, ?_, ?_⟩
          · first | rfl | (rw [List.take_add_one]; simp [hx])
          · simp [Weak, TW, hw, encRules_eq]
    · try simp at h11
      obtain rfl : k = l.length := by omega
      simp [rulesF] at hs
      refine AWp.exit ?_
      repeat first | refine thenN ?_ | refine thenX ?_ | refine thenR ?_ | refine blockN ?_ | refine blockR ?_ | refine blockX ?_ | refine blockM rfl ?_
      -- region 13
      refine AWp.rseq E_ok [0, 2, 3, 4, 7, 11, 19, 22, 61] fun K hK => ?_
      simp [encRules_eq, h7, h11]
      repeat refine ⟨by first | omega | assumption | decide | (simp only [maxLen]; omega) | (intros; omega), ?_⟩
      refine hK _ ?_
      clear hK K
      refine AWp.ret ?_
      repeat first | refine thenN ?_ | refine thenX ?_ | refine thenR ?_ | refine blockN ?_ | refine blockR ?_ | refine blockX ?_ | refine blockM rfl ?_
      first | (rw [rulesR_full h7]; simp [RetOk, RV]; done) | (rw [rulesR_ok h7]; simp [RetOk, RV, ← hs])
end Go.Proofs.Ytkdcnpdjmkoicaa

set_option maxRecDepth 100000
set_option linter.unusedSimpArgs false
set_option linter.unusedVariables false
namespace Go.Proofs.Ytkdcnpdjmkoicaa
open Go Ab Lib
theorem policy_Fits_1 (a n : Int) : ACalls E.P 33 [.int .i64 a, .int .i64 n] (.d (.bool (fits1 a n))) := by
  refine ACalls.intro E_ok Try.func33 rfl rfl Try.ntmps33 Try.results33 (Nat.le_of_ble_eq_true rfl) fun hok base S0 w0 => ?_
  -- region 0
  refine AWp.rseq E_ok [0, 1, 4] fun K hK => ?_
  simp
  repeat refine ⟨by first | omega | assumption | decide | (simp only [maxLen]; omega) | (intros; omega), ?_⟩
  refine hK _ ?_
  clear hK K
  -- region 1
  refine AWp.rseq E_ok [0, 1, 4] fun K hK => ?_
  simp
  repeat refine ⟨by first | omega | assumption | decide | (simp only [maxLen]; omega) | (intros; omega), ?_⟩
  refine hK _ ?_
  clear hK K
  refine AWp.ret ?_
  repeat first | refine thenN ?_ | refine thenX ?_ | refine thenR ?_ | refine blockN ?_ | refine blockR ?_ | refine blockX ?_ | refine blockM rfl ?_
  simp [RetOk, RV, fits1]
end Go.Proofs.Ytkdcnpdjmkoicaa

set_option maxRecDepth 100000
set_option linter.unusedSimpArgs false
set_option linter.unusedVariables false
namespace Go.Proofs.Ytkdcnpdjmkoicaa
open Go Ab Lib
theorem policy_Fits (r : Rule) (q : Qry) : ACalls E.P 14 [encRule r, .int .i64 q.p, .int .i64 q.i, .int .i64 q.b] (.d (.bool (fitsB r q))) := by
  refine ACalls.intro E_ok Try.func14 rfl rfl Try.ntmps14 Try.results14 (Nat.le_of_ble_eq_true rfl) fun hok base S0 w0 => ?_
  -- region 0
  refine AWp.rseq E_ok [0, 1, 2, 3, 4, 8, 9] fun K hK => ?_
  simp [encRule_eq]
  repeat refine ⟨by first | omega | assumption | decide | (simp only [maxLen]; omega) | (intros; omega), ?_⟩
  refine hK _ ?_
  clear hK K
  -- region 1
  refine AWp.rseq E_ok [0, 1, 2, 3, 4, 8, 9] fun K hK => ?_
  simp [encRule_eq]
  repeat refine ⟨by first | omega | assumption | decide | (simp only [maxLen]; omega) | (intros; omega), ?_⟩
  refine hK _ ?_
  clear hK K
  -- region 2
  refine AWp.rseq E_ok [0, 1, 2, 3, 4, 8, 9] fun K hK => ?_
  simp [encRule_eq]
  repeat refine ⟨by first | omega | assumption | decide | (simp only [maxLen]; omega) | (intros; omega), ?_⟩
  refine meet.of (policy_Fits_1 _ _) ?_
  simp [encRule_eq]
  repeat refine ⟨by first | omega | assumption | decide | (simp only [maxLen]; omega) | (intros; omega), ?_⟩
  refine meet.of (policy_Fits_1 _ _) ?_
  simp [encRule_eq]
  repeat refine ⟨by first | omega | assumption | decide | (simp only [maxLen]; omega) | (intros; omega), ?_⟩
  refine meet.of (policy_Fits_1 _ _) ?_
  simp [encRule_eq]
  repeat refine ⟨by first | omega | assumption | decide | (simp only [maxLen]; omega) | (intros; omega), ?_⟩
  refine hK _ ?_
  clear hK K
  refine AWp.ret ?_
  repeat first | refine thenN ?_ | refine thenX ?_ | refine thenR ?_ | refine blockN ?_ | refine blockR ?_ | refine blockX ?_ | refine blockM rfl ?_
  simp [RetOk, RV, fitsB]
end Go.Proofs.Ytkdcnpdjmkoicaa

set_option maxRecDepth 100000
set_option linter.unusedSimpArgs false
set_option linter.unusedVariables false
namespace Go.Proofs.Ytkdcnpdjmkoicaa
open Go Ab Lib
theorem policy_weight (r : Rule) : ACalls E.P 50 [encRule r] (.d (.int .i64 (wtR r))) := by
  refine ACalls.intro E_ok Try.func50 rfl rfl Try.ntmps50 Try.results50 (Nat.le_of_ble_eq_true rfl) fun hok base S0 w0 => ?_
  -- region 0
  refine AWp.rseq E_ok [0, 1, 2, 3, 5, 12, 13, 14, 15, 21] fun K hK => ?_
  simp [encRule_eq]
  repeat refine ⟨by first | omega | assumption | decide | (simp only [maxLen]; omega) | (intros; omega), ?_⟩
  refine hK _ ?_
  clear hK K
  -- region 1
  refine AWp.rseq E_ok [0, 1, 2, 3, 5, 12, 13, 14, 15, 21] fun K hK => ?_
  simp [encRule_eq]
  repeat refine ⟨by first | omega | assumption | decide | (simp only [maxLen]; omega) | (intros; omega), ?_⟩
  refine hK _ ?_
  clear hK K
  refine AWp.seq ?_
  -- region 2
  refine AWp.rseq E_ok [0, 1, 2, 3, 5, 12, 13, 14, 15, 21] fun K hK => ?_
  simp [encRule_eq]
  repeat refine ⟨by first | omega | assumption | decide | (simp only [maxLen]; omega) | (intros; omega), ?_⟩
  refine hK _ ?_
  clear hK K
  refine AWp.block ?_
  refine AWp.range (l := (rkeys r)) (F := wF) (tot := wF 0 (rkeys r)) (fun k y => match y with | n => True) (fun k y => match y with | n => [(0, T.val (D.agg [D.int IntKind.i64 r.r0, D.int IntKind.i64 r.r1, D.int IntKind.i64 r.r2, D.int IntKind.i64 r.r3, D.int IntKind.i64 r.r4, D.int IntKind.i64 r.fine, D.int IntKind.i64 r.grace, D.int IntKind.i64 r.maxFine, D.int IntKind.i64 r.r8, D.int IntKind.i64 r.r9, D.int IntKind.i64 r.r10, D.int IntKind.i64 r.r11, D.int IntKind.i64 r.r12])), (3, T.val (.int .i64 n)), (12, T.val (.slice (.int .i64 0) ((rkeys r).map (D.int .i64)))), (13, T.val (D.int IntKind.i64 3)), (14, T.val (.int .i64 k))]) (0) ?_ rfl ?_ ?_
  · simp [Weak, TW, encRule_eq, rkeys]
  · first | exact trivial | (simp; omega) | simp
  rintro k n hk hs hi
  try simp only at hi
  -- region 3
  refine AWp.rseq E_ok [0, 1, 2, 3, 5, 12, 13, 14, 15, 21] fun K hK => ?_
  simp [encRule_eq]
  repeat refine ⟨by first | omega | assumption | decide | (simp only [maxLen]; omega) | (intros; omega), ?_⟩
  refine hK _ ?_
  clear hK K
  refine AWp.seq ?_
  refine AWp.cond rfl (fun h15 => ?_) (fun h15 => ?_)
  · try simp at h15
    have hlt : k < (rkeys r).length := by rw [rkeys_len]; omega
    obtain ⟨x, hx, hxx, hd⟩ := at_indexG (l := (rkeys r)) hlt
    rw [hd] at hs
    refine AWp.skip ?_
    repeat first | refine thenN ?_ | refine thenX ?_ | refine thenR ?_ | refine blockN ?_ | refine blockR ?_ | refine blockX ?_ | refine blockM rfl ?_
    refine AWp.seq ?_
    refine AWp.block ?_
    -- region 4
    refine AWp.rseq E_ok [0, 1, 2, 3, 5, 12, 13, 14, 15, 21] fun K hK => ?_
    simp [encRule_eq, h15, hx, hxx]
    repeat refine ⟨by first | omega | assumption | decide | (simp only [maxLen]; omega) | (intros; omega), ?_⟩
    refine hK _ ?_
    clear hK K
    -- region 5
    refine AWp.rseq E_ok [0, 1, 2, 3, 5, 12, 13, 14, 15, 21] fun K hK => ?_
    simp [encRule_eq, h15, hx, hxx]
    repeat refine ⟨by first | omega | assumption | decide | (simp only [maxLen]; omega) | (intros; omega), ?_⟩
    refine hK _ ?_
    clear hK K
    -- region 6
    refine AWp.rseq E_ok [0, 1, 2, 3, 5, 12, 13, 14, 15, 21] fun K hK => ?_
    simp [encRule_eq, h15, hx, hxx]
    repeat refine ⟨by first | omega | assumption | decide | (simp only [maxLen]; omega) | (intros; omega), ?_⟩
    refine hK _ ?_
    clear hK K
    refine AWp.cond rfl (fun h21 => ?_) (fun h21 => ?_)
    · try simp at h21
      -- region 7
      refine AWp.rend E_ok [0, 1, 2, 3, 5, 12, 13, 14, 15, 21] fun K hK => ?_
      simp [encRule_eq, h15, hx, hxx, h21]
      repeat refine ⟨by first | omega | assumption | decide | (simp only [maxLen]; omega) | (intros; omega), ?_⟩
      refine hK _ ?_
      clear hK K
      repeat first | refine thenN ?_ | refine thenX ?_ | refine thenR ?_ | refine blockN ?_ | refine blockR ?_ | refine blockX ?_ | refine blockM rfl ?_
      -- region 8
      refine AWp.rend E_ok [0, 1, 2, 3, 5, 12, 13, 14, 15, 21] fun K hK => ?_
      simp [encRule_eq, h15, hx, hxx, h21]
      repeat refine ⟨by first | omega | assumption | decide | (simp only [maxLen]; omega) | (intros; omega), ?_⟩
      refine hK _ ?_
      clear hK K
      repeat first | refine thenN ?_ | refine thenX ?_ | refine thenR ?_ | refine blockN ?_ | refine blockR ?_ | refine blockX ?_ | refine blockM rfl ?_
      have hw : IntKind.i64.wrap ((k : Int) + 1) = (k : Int) + 1 := by rw [wrap_i64] <;> omega
      simp [wF, h21] at hs
      refine ⟨_, hlt, hs, ?_, ?_⟩
      · first | exact trivial | (simp; omega) | simp
      · simp [Weak, TW, hw, encRule_eq]
    · try simp at h21
      refine AWp.skip ?_
      repeat first | refine thenN ?_ | refine thenX ?_ | refine thenR ?_ | refine blockN ?_ | refine blockR ?_ | refine blockX ?_ | refine blockM rfl ?_
      -- region 8
      refine AWp.rend E_ok [0, 1, 2, 3, 5, 12, 13, 14, 15, 21] fun K hK => ?_
      simp [encRule_eq, h15, hx, hxx, h21]
      repeat refine ⟨by first | omega | assumption | decide | (simp only [maxLen]; omega) | (intros; omega), ?_⟩
      refine hK _ ?_
      clear hK K
      repeat first | refine thenN ?_ | refine thenX ?_ | refine thenR ?_ | refine blockN ?_ | refine blockR ?_ | refine blockX ?_ | refine blockM rfl ?_
      have hw : IntKind.i64.wrap ((k : Int) + 1) = (k : Int) + 1 := by rw [wrap_i64] <;> omega
      simp [wF, h21] at hs
      refine ⟨_, hlt, hs, ?_, ?_⟩
      · first | exact trivial | (simp; omega) | simp
      · simp [Weak, TW, hw, encRule_eq]
  · try simp at h15
    obtain rfl : k = (rkeys r).length := by rw [rkeys_len] at hk ⊢; omega
    simp [wF] at hs
    refine AWp.exit ?_
    repeat first | refine thenN ?_ | refine thenX ?_ | refine thenR ?_ | refine blockN ?_ | refine blockR ?_ | refine blockX ?_ | refine blockM rfl ?_
    -- region 9
    refine AWp.rseq E_ok [0, 1, 2, 3, 5, 12, 13, 14, 15, 21] fun K hK => ?_
    simp [encRule_eq, h15]
    repeat refine ⟨by first | omega | assumption | decide | (simp only [maxLen]; omega) | (intros; omega), ?_⟩
    refine hK _ ?_
    clear hK K
    refine AWp.ret ?_
    repeat first | refine thenN ?_ | refine thenX ?_ | refine thenR ?_ | refine blockN ?_ | refine blockR ?_ | refine blockX ?_ | refine blockM rfl ?_
    rw [← wF_eq]; simp [RetOk, RV, hs]
end Go.Proofs.Ytkdcnpdjmkoicaa

set_option maxRecDepth 100000
set_option linter.unusedSimpArgs false
set_option linter.unusedVariables false
namespace Go.Proofs.Ytkdcnpdjmkoicaa
open Go Ab Lib
theorem policy_best (l : List Rule) (q : Qry) : ACalls E.P 34 [encRules l, .int .i64 q.p, .int .i64 q.i, .int .i64 q.b] (.d (.int .i64 (bestR l q))) := by
  refine ACalls.intro E_ok Try.func34 rfl rfl Try.ntmps34 Try.results34 (Nat.le_of_ble_eq_true rfl) fun hok base S0 w0 => ?_
  have hl : l.length ≤ 9223372036854775807 := rules_len (hok (encRules l) (by simp))
  -- region 0
  refine AWp.rseq E_ok [0, 1, 2, 3, 8, 9, 10, 11, 12, 13, 14, 15, 37] fun K hK => ?_
  simp [encRules_eq]
  repeat refine ⟨by first | omega | assumption | decide | (simp only [maxLen]; omega) | (intros; omega), ?_⟩
  refine hK _ ?_
  clear hK K
  -- region 1
  refine AWp.rseq E_ok [0, 1, 2, 3, 8, 9, 10, 11, 12, 13, 14, 15, 37] fun K hK => ?_
  simp [encRules_eq]
  repeat refine ⟨by first | omega | assumption | decide | (simp only [maxLen]; omega) | (intros; omega), ?_⟩
  refine hK _ ?_
  clear hK K
  refine AWp.seq ?_
  -- region 2
  refine AWp.rseq E_ok [0, 1, 2, 3, 8, 9, 10, 11, 12, 13, 14, 15, 37] fun K hK => ?_
  simp [encRules_eq]
  repeat refine ⟨by first | omega | assumption | decide | (simp only [maxLen]; omega) | (intros; omega), ?_⟩
  refine hK _ ?_
  clear hK K
  refine AWp.block ?_
  refine AWp.range (l := l) (F := bestF q) (tot := bestF q (-1, 0, 0) l) (fun k y => match y with | (a, w, m) => m = k ∧ BestI l q k a w) (fun k y => match y with | (a, w, m) => [(0, T.val ((encRule zr).slice (List.map encRule l))), (1, T.val (D.int IntKind.i64 q.p)), (2, T.val (D.int IntKind.i64 q.i)), (3, T.val (D.int IntKind.i64 q.b)), (9, T.val (.int .i64 a)), (12, T.val ((encRule zr).slice (List.map encRule l))), (13, T.val (D.int IntKind.i64 ↑l.length)), (14, T.val (.int .i64 k))]) (-1, 0, 0) ?_ rfl ?_ ?_
  · simp [Weak, TW, encRules_eq]
  · exact ⟨rfl, BestI.zero l q⟩
  rintro k ⟨a, w, m⟩ hk hs hi
  try simp only at hi
  -- region 3
  refine AWp.rseq E_ok [0, 1, 2, 3, 8, 9, 10, 11, 12, 13, 14, 15, 37] fun K hK => ?_
  simp [encRules_eq]
  repeat refine ⟨by first | omega | assumption | decide | (simp only [maxLen]; omega) | (intros; omega), ?_⟩
  refine hK _ ?_
  clear hK K
  refine AWp.seq ?_
  refine AWp.cond rfl (fun h15 => ?_) (fun h15 => ?_)
  · try simp at h15
    obtain ⟨x, hx, hxx, hd⟩ := at_indexG (l := l) h15
    rw [hd] at hs
    obtain ⟨hm, hB⟩ := hi
    rw [hm] at hs
    have hal := hB.rng
    have haw := hB.at'
    have wr := wtR_rng x
    have wr2 := wtR_rng (l[a.toNat]?.getD zr)
    refine AWp.skip ?_
    repeat first | refine thenN ?_ | refine thenX ?_ | refine thenR ?_ | refine blockN ?_ | refine blockR ?_ | refine blockX ?_ | refine blockM rfl ?_
    refine AWp.seq ?_
    refine AWp.block ?_
    -- region 4
    refine AWp.rseq E_ok [0, 1, 2, 3, 8, 9, 10, 11, 12, 13, 14, 15, 37] fun K hK => ?_
    simp [encRules_eq, hx, hxx]
    repeat refine ⟨by first | omega | assumption | decide | (simp only [maxLen]; omega) | (intros; omega), ?_⟩
    refine hK _ ?_
    clear hK K
    -- region 5
    refine AWp.rseqQ E_ok mixed [0, 1, 2, 3, 8, 9, 10, 11, 12, 13, 14, 15, 37] (by kernel_rfl) fun K hK => ?_
    simp [encRules_eq, hx, hxx]
    repeat refine ⟨by first | omega | assumption | decide | (simp only [maxLen]; omega) | (intros; omega), ?_⟩
    refine meet.of (policy_Fits x q) ?_
    simp [encRules_eq, hx, hxx]
    repeat refine ⟨by first | omega | assumption | decide | (simp only [maxLen]; omega) | (intros; omega), ?_⟩
    refine meet.of (policy_weight x) ?_
    simp [encRules_eq, hx, hxx]
    repeat refine ⟨by first | omega | assumption | decide | (simp only [maxLen]; omega) | (intros; omega), ?_⟩
    refine meet.of (policy_weight (l[a.toNat]?.getD zr)) ?_
    simp [encRules_eq, hx, hxx]
    repeat refine ⟨by first | omega | assumption | decide | (simp only [maxLen]; omega) | (intros; omega), ?_⟩
    refine hK _ ?_
    clear hK K
    refine AWp.cond rfl (fun h37 => ?_) (fun h37 => ?_)
    · try simp at h37
      have hc : fitsB x q = true ∧ (a < 0 ∨ w < wtR x) := best_t haw h37
      -- region 6
      refine AWp.rend E_ok [0, 1, 2, 3, 8, 9, 10, 11, 12, 13, 14, 15, 37] fun K hK => ?_
      simp [encRules_eq, hx, hxx]
      repeat refine ⟨by first | omega | assumption | decide | (simp only [maxLen]; omega) | (intros; omega), ?_⟩
      refine hK _ ?_
      clear hK K
      repeat first | refine thenN ?_ | refine thenX ?_ | refine thenR ?_ | refine blockN ?_ | refine blockR ?_ | refine blockX ?_ | refine blockM rfl ?_
      -- region 7
      refine AWp.rend E_ok [0, 1, 2, 3, 8, 9, 10, 11, 12, 13, 14, 15, 37] fun K hK => ?_
      simp [encRules_eq, hx, hxx]
      repeat refine ⟨by first | omega | assumption | decide | (simp only [maxLen]; omega) | (intros; omega), ?_⟩
      refine hK _ ?_
      clear hK K
      repeat first | refine thenN ?_ | refine thenX ?_ | refine thenR ?_ | refine blockN ?_ | refine blockR ?_ | refine blockX ?_ | refine blockM rfl ?_
      have hw : IntKind.i64.wrap ((k : Int) + 1) = (k : Int) + 1 := by rw [wrap_i64] <;> omega
      rw [bestF] at hs
      first | rw [if_pos hc] at hs | rw [if_neg hc] at hs
      refine ⟨_, h15, hs, ?_, ?_⟩
      · first | exact ⟨rfl, by have := hB.step hx; rw [if_pos hc] at this; exact this⟩ | exact ⟨rfl, by have := hB.step hx; rw [if_neg hc] at this; exact this⟩
      · simp [Weak, TW, hw, encRules_eq]
    · try simp at h37
      have hc : ¬ (fitsB x q = true ∧ (a < 0 ∨ w < wtR x)) := best_n haw h37
      refine AWp.skip ?_
      repeat first | refine thenN ?_ | refine thenX ?_ | refine thenR ?_ | refine blockN ?_ | refine blockR ?_ | refine blockX ?_ | refine blockM rfl ?_
      -- region 7
      refine AWp.rend E_ok [0, 1, 2, 3, 8, 9, 10, 11, 12, 13, 14, 15, 37] fun K hK => ?_
      simp [encRules_eq, hx, hxx]
      repeat refine ⟨by first | omega | assumption | decide | (simp only [maxLen]; omega) | (intros; omega), ?_⟩
      refine hK _ ?_
      clear hK K
      repeat first | refine thenN ?_ | refine thenX ?_ | refine thenR ?_ | refine blockN ?_ | refine blockR ?_ | refine blockX ?_ | refine blockM rfl ?_
      have hw : IntKind.i64.wrap ((k : Int) + 1) = (k : Int) + 1 := by rw [wrap_i64] <;> omega
      rw [bestF] at hs
      first | rw [if_pos hc] at hs | rw [if_neg hc] at hs
      refine ⟨_, h15, hs, ?_, ?_⟩
      · first | exact ⟨rfl, by have := hB.step hx; rw [if_pos hc] at this; exact this⟩ | exact ⟨rfl, by have := hB.step hx; rw [if_neg hc] at this; exact this⟩
      · simp [Weak, TW, hw, encRules_eq]
  · try simp at h15
    obtain rfl : k = l.length := by omega
    simp [bestF] at hs
    refine AWp.exit ?_
    repeat first | refine thenN ?_ | refine thenX ?_ | refine thenR ?_ | refine blockN ?_ | refine blockR ?_ | refine blockX ?_ | refine blockM rfl ?_
    -- region 8
    refine AWp.rseq E_ok [0, 1, 2, 3, 8, 9, 10, 11, 12, 13, 14, 15, 37] fun K hK => ?_
    simp [encRules_eq]
    repeat refine ⟨by first | omega | assumption | decide | (simp only [maxLen]; omega) | (intros; omega), ?_⟩
    refine hK _ ?_
    clear hK K
    refine AWp.ret ?_
    repeat first | refine thenN ?_ | refine thenX ?_ | refine thenR ?_ | refine blockN ?_ | refine blockR ?_ | refine blockX ?_ | refine blockM rfl ?_
    simp [RetOk, RV, hs, bestR]
end Go.Proofs.Ytkdcnpdjmkoicaa

set_option maxRecDepth 100000
set_option linter.unusedSimpArgs false
set_option linter.unusedVariables false
namespace Go.Proofs.Ytkdcnpdjmkoicaa
open Go Ab Lib
theorem policy_Find (l : List Rule) (q : Qry) : ACalls E.P 16 [encRules l, .int .i64 q.p, .int .i64 q.i, .int .i64 q.b] (.tup [encRule (findR l q), .bool (foundR l q)]) := by
  refine ACalls.intro E_ok Try.func16 rfl rfl Try.ntmps16 Try.results16 (Nat.le_of_ble_eq_true rfl) fun hok base S0 w0 => ?_
  have hb := bestR_rng l q
  -- region 0
  refine AWp.rseq E_ok [0, 1, 2, 3, 8, 9, 10, 17] fun K hK => ?_
  simp [encRules_eq]
  repeat refine ⟨by first | omega | assumption | decide | (simp only [maxLen]; omega) | (intros; omega), ?_⟩
  refine hK _ ?_
  clear hK K
  -- region 1
  refine AWp.rseq E_ok [0, 1, 2, 3, 8, 9, 10, 17] fun K hK => ?_
  simp [encRules_eq]
  repeat refine ⟨by first | omega | assumption | decide | (simp only [maxLen]; omega) | (intros; omega), ?_⟩
  refine meet.of (policy_best l q) ?_
  simp [encRules_eq]
  repeat refine ⟨by first | omega | assumption | decide | (simp only [maxLen]; omega) | (intros; omega), ?_⟩
  refine hK _ ?_
  clear hK K
  refine AWp.seq ?_
  -- region 2
  refine AWp.rseq E_ok [0, 1, 2, 3, 8, 9, 10, 17] fun K hK => ?_
  simp [encRules_eq]
  repeat refine ⟨by first | omega | assumption | decide | (simp only [maxLen]; omega) | (intros; omega), ?_⟩
  refine hK _ ?_
  clear hK K
  refine AWp.cond rfl (fun h17 => ?_) (fun h17 => ?_)
  · try simp at h17
    -- region 3
    refine AWp.rseq E_ok [0, 1, 2, 3, 8, 9, 10, 17] fun K hK => ?_
    simp [encRules_eq, h17]
    repeat refine ⟨by first | omega | assumption | decide | (simp only [maxLen]; omega) | (intros; omega), ?_⟩
    refine hK _ ?_
    clear hK K
    refine AWp.ret ?_
    repeat first | refine thenN ?_ | refine thenX ?_ | refine thenR ?_ | refine blockN ?_ | refine blockR ?_ | refine blockX ?_ | refine blockM rfl ?_
    first | (simp [RetOk, RV, RVs, encRule_eq, findR, foundR, h17, zr]; done) | (rw [find_some h17, found_some h17]; simp [RetOk, RV, RVs, encRule_eq, hj, hy1])
  · try simp at h17
    obtain ⟨j, hj⟩ : ∃ j : Nat, bestR l q = (j : Int) := ⟨(bestR l q).toNat, by omega⟩
    have hjl : j < l.length := by omega
    obtain ⟨y, hy1, hy2, _⟩ := at_indexG (l := l) (k := j) hjl
    refine AWp.skip ?_
    repeat first | refine thenN ?_ | refine thenX ?_ | refine thenR ?_ | refine blockN ?_ | refine blockR ?_ | refine blockX ?_ | refine blockM rfl ?_
    -- region 4
    refine AWp.rseq E_ok [0, 1, 2, 3, 8, 9, 10, 17] fun K hK => ?_
    simp [encRules_eq, h17, hj, hy1, hy2, hjl]
    repeat refine ⟨by first | omega | assumption | decide | (simp only [maxLen]; omega) | (intros; omega), ?_⟩
    refine hK _ ?_
    clear hK K
    refine AWp.ret ?_
    repeat first | refine thenN ?_ | refine thenX ?_ | refine thenR ?_ | refine blockN ?_ | refine blockR ?_ | refine blockX ?_ | refine blockM rfl ?_
    first | (simp [RetOk, RV, RVs, encRule_eq, findR, foundR, h17, zr]; done) | (rw [find_some h17, found_some h17]; simp [RetOk, RV, RVs, encRule_eq, hj, hy1])
end Go.Proofs.Ytkdcnpdjmkoicaa

set_option maxRecDepth 100000
set_option linter.unusedSimpArgs false
set_option linter.unusedVariables false
namespace Go.Proofs.Ytkdcnpdjmkoicaa
open Go Ab Lib
theorem calendar_isDay (n : Int) : ACalls E.P 45 [.int .i64 n] (.d (.bool (isDay n))) := by
  refine ACalls.intro E_ok Try.func45 rfl rfl Try.ntmps45 Try.results45 (Nat.le_of_ble_eq_true rfl) fun hok base S0 w0 => ?_
  -- region 0
  refine AWp.rseq E_ok [0, 2] fun K hK => ?_
  simp
  repeat refine ⟨by first | omega | assumption | decide | (simp only [maxLen]; omega) | (intros; omega), ?_⟩
  refine hK _ ?_
  clear hK K
  -- region 1
  refine AWp.rseq E_ok [0, 2] fun K hK => ?_
  simp
  repeat refine ⟨by first | omega | assumption | decide | (simp only [maxLen]; omega) | (intros; omega), ?_⟩
  refine hK _ ?_
  clear hK K
  refine AWp.ret ?_
  repeat first | refine thenN ?_ | refine thenX ?_ | refine thenR ?_ | refine blockN ?_ | refine blockR ?_ | refine blockX ?_ | refine blockM rfl ?_
  simp [RetOk, RV, isDay]
end Go.Proofs.Ytkdcnpdjmkoicaa

set_option maxRecDepth 100000
set_option linter.unusedSimpArgs false
set_option linter.unusedVariables false
namespace Go.Proofs.Ytkdcnpdjmkoicaa
open Go Ab Lib
theorem cmp_isNaN_int (x : Int) : ACalls E.P 57 [.int .i64 x] (.d (.bool false)) := by
  refine ACalls.intro E_ok Try.func57 rfl rfl Try.ntmps57 Try.results57 (Nat.le_of_ble_eq_true rfl) fun hok base S0 w0 => ?_
  -- region 0
  refine AWp.rseq E_ok [0, 2] fun K hK => ?_
  simp
  repeat refine ⟨by first | omega | assumption | decide | (simp only [maxLen]; omega) | (intros; omega), ?_⟩
  refine hK _ ?_
  clear hK K
  -- region 1
  refine AWp.rseq E_ok [0, 2] fun K hK => ?_
  simp
  repeat refine ⟨by first | omega | assumption | decide | (simp only [maxLen]; omega) | (intros; omega), ?_⟩
  refine hK _ ?_
  clear hK K
  refine AWp.ret ?_
  repeat first | refine thenN ?_ | refine thenX ?_ | refine thenR ?_ | refine blockN ?_ | refine blockR ?_ | refine blockX ?_ | refine blockM rfl ?_
  simp [RetOk, RV, RVs]
end Go.Proofs.Ytkdcnpdjmkoicaa

set_option maxRecDepth 100000
set_option linter.unusedSimpArgs false
set_option linter.unusedVariables false
namespace Go.Proofs.Ytkdcnpdjmkoicaa
open Go Ab Lib
theorem cmp_Less_int (x y : Int) : ACalls E.P 53 [.int .i64 x, .int .i64 y] (.d (.bool (decide (x < y)))) := by
  refine ACalls.intro E_ok Try.func53 rfl rfl Try.ntmps53 Try.results53 (Nat.le_of_ble_eq_true rfl) fun hok base S0 w0 => ?_
  -- region 0
  refine AWp.rseq E_ok [0, 1, 4] fun K hK => ?_
  simp
  repeat refine ⟨by first | omega | assumption | decide | (simp only [maxLen]; omega) | (intros; omega), ?_⟩
  refine hK _ ?_
  clear hK K
  -- region 1
  refine AWp.rseq E_ok [0, 1, 4] fun K hK => ?_
  simp
  repeat refine ⟨by first | omega | assumption | decide | (simp only [maxLen]; omega) | (intros; omega), ?_⟩
  refine meet.of (cmp_isNaN_int _) ?_
  simp
  repeat refine ⟨by first | omega | assumption | decide | (simp only [maxLen]; omega) | (intros; omega), ?_⟩
  refine meet.of (cmp_isNaN_int _) ?_
  simp
  repeat refine ⟨by first | omega | assumption | decide | (simp only [maxLen]; omega) | (intros; omega), ?_⟩
  refine hK _ ?_
  clear hK K
  refine AWp.ret ?_
  repeat first | refine thenN ?_ | refine thenX ?_ | refine thenR ?_ | refine blockN ?_ | refine blockR ?_ | refine blockX ?_ | refine blockM rfl ?_
  simp [RetOk, RV, RVs]
end Go.Proofs.Ytkdcnpdjmkoicaa

set_option maxRecDepth 100000
set_option linter.unusedSimpArgs false
set_option linter.unusedVariables false
namespace Go.Proofs.Ytkdcnpdjmkoicaa
open Go Ab Lib
theorem slices_isNaN_int (x : Int) : ACalls E.P 54 [.int .i64 x] (.d (.bool false)) := by
  refine ACalls.intro E_ok Try.func54 rfl rfl Try.ntmps54 Try.results54 (Nat.le_of_ble_eq_true rfl) fun hok base S0 w0 => ?_
  -- region 0
  refine AWp.rseq E_ok [0, 2] fun K hK => ?_
  simp
  repeat refine ⟨by first | omega | assumption | decide | (simp only [maxLen]; omega) | (intros; omega), ?_⟩
  refine hK _ ?_
  clear hK K
  -- region 1
  refine AWp.rseq E_ok [0, 2] fun K hK => ?_
  simp
  repeat refine ⟨by first | omega | assumption | decide | (simp only [maxLen]; omega) | (intros; omega), ?_⟩
  refine hK _ ?_
  clear hK K
  refine AWp.ret ?_
  repeat first | refine thenN ?_ | refine thenX ?_ | refine thenR ?_ | refine blockN ?_ | refine blockR ?_ | refine blockX ?_ | refine blockM rfl ?_
  simp [RetOk, RV, RVs]
end Go.Proofs.Ytkdcnpdjmkoicaa

set_option maxRecDepth 100000
set_option linter.unusedSimpArgs false
set_option linter.unusedVariables false
namespace Go.Proofs.Ytkdcnpdjmkoicaa
open Go Ab Lib
theorem slices_BinarySearch_int_int (l : List Int) (d : Int) (hl : l.length ≤ 1000000) (ha : ascF none l = 0) : ACalls E.P 46 [encInts l, .int .i64 d] (.tup [.int .i64 (bsI l d), .bool (decide (d ∈ l))]) := by
  refine ACalls.intro E_ok Try.func46 rfl rfl Try.ntmps46 Try.results46 (Nat.le_of_ble_eq_true rfl) fun hok base S0 w0 => ?_
  -- region 0
  refine AWp.rseq E_ok [0, 1, 4, 5, 6, 7, 8, 9, 15, 27] fun K hK => ?_
  simp [encInts_eq]
  repeat refine ⟨by first | omega | assumption | decide | (simp only [maxLen]; omega) | (intros; omega), ?_⟩
  refine hK _ ?_
  clear hK K
  -- region 1
  refine AWp.rseq E_ok [0, 1, 4, 5, 6, 7, 8, 9, 15, 27] fun K hK => ?_
  simp [encInts_eq]
  repeat refine ⟨by first | omega | assumption | decide | (simp only [maxLen]; omega) | (intros; omega), ?_⟩
  refine hK _ ?_
  clear hK K
  -- region 2
  refine AWp.rseq E_ok [0, 1, 4, 5, 6, 7, 8, 9, 15, 27] fun K hK => ?_
  simp [encInts_eq]
  repeat refine ⟨by first | omega | assumption | decide | (simp only [maxLen]; omega) | (intros; omega), ?_⟩
  refine hK _ ?_
  clear hK K
  refine AWp.seq ?_
  refine AWp.block ?_
  refine AWp.loop (ι := { x : Nat × Nat // x.1 ≤ x.2 ∧ x.2 ≤ l.length ∧ (∀ k y, k < x.1 → l[k]? = some y → y < d) ∧ ∀ k y, x.2 ≤ k → l[k]? = some y → d ≤ y }) (fun x => match x with | ⟨⟨i, j⟩, hij, hj, h1, h2⟩ => [(0, T.val ((D.int IntKind.i64 0).slice (List.map (D.int IntKind.i64) l))), (1, T.val (D.int IntKind.i64 d)), (6, T.val (D.int IntKind.i64 ↑l.length)), (7, T.val (.int .i64 i)), (8, T.val (.int .i64 j))]) (fun x => match x with | ⟨⟨i, j⟩, hij, hj, h1, h2⟩ => j - i) ⟨(0, l.length), Nat.zero_le _, Nat.le_refl _, fun k y h => by simp at h, fun k y h hk => by simp only at h; have := (List.getElem?_eq_some_iff.1 hk).1; omega⟩ ?_ ?_
  · simp [Weak, TW, encInts_eq]
  rintro ⟨⟨i, j⟩, hij, hj, h1, h2⟩
  simp only
  try simp only at hij
  try simp only at hj
  try simp only at h1
  try simp only at h2
  refine AWp.seq ?_
  -- region 3
  refine AWp.rseq E_ok [0, 1, 4, 5, 6, 7, 8, 9, 15, 27] fun K hK => ?_
  simp [encInts_eq]
  repeat refine ⟨by first | omega | assumption | decide | (simp only [maxLen]; omega) | (intros; omega), ?_⟩
  refine hK _ ?_
  clear hK K
  refine AWp.cond rfl (fun h15 => ?_) (fun h15 => ?_)
  · try simp at h15
    obtain ⟨m, hmm⟩ : ∃ m : Nat, m = (i + j) / 2 := ⟨_, rfl⟩
    have hm := half_eq (i := i) (j := j) (by omega)
    rw [← hmm] at hm
    have hlt : m < l.length := by omega
    obtain ⟨y, hy1, hy2, _⟩ := at_indexG (l := l) (k := m) hlt
    refine AWp.skip ?_
    repeat first | refine thenN ?_ | refine thenX ?_ | refine thenR ?_ | refine blockN ?_ | refine blockR ?_ | refine blockX ?_ | refine blockM rfl ?_
    refine AWp.block ?_
    -- region 4
    refine AWp.rseq E_ok [0, 1, 4, 5, 6, 7, 8, 9, 15, 27] fun K hK => ?_
    simp [encInts_eq, h15, hm, hlt, hy1, hy2]
    repeat refine ⟨by first | omega | assumption | decide | (simp only [maxLen]; omega) | (intros; omega), ?_⟩
    refine hK _ ?_
    clear hK K
    -- region 5
    refine AWp.rseq E_ok [0, 1, 4, 5, 6, 7, 8, 9, 15, 27] fun K hK => ?_
    simp [encInts_eq, h15, hm, hlt, hy1, hy2]
    repeat refine ⟨by first | omega | assumption | decide | (simp only [maxLen]; omega) | (intros; omega), ?_⟩
    refine meet.of (cmp_Less_int _ _) ?_
    simp [encInts_eq, h15, hm, hlt, hy1, hy2]
    repeat refine ⟨by first | omega | assumption | decide | (simp only [maxLen]; omega) | (intros; omega), ?_⟩
    refine hK _ ?_
    clear hK K
    refine AWp.cond rfl (fun h27 => ?_) (fun h27 => ?_)
    · try simp at h27
      -- region 6
      have hw : IntKind.i64.wrap ((m : Int) + 1) = ((m + 1 : Nat) : Int) := by rw [wrap_i64] <;> omega
      refine AWp.rend E_ok [0, 1, 4, 5, 6, 7, 8, 9, 15, 27] fun K hK => ?_
      simp [encInts_eq, h15, hm, hlt, hy1, hy2, h27]
      repeat refine ⟨by first | omega | assumption | decide | (simp only [maxLen]; omega) | (intros; omega), ?_⟩
      refine hK _ ?_
      clear hK K
      refine ⟨⟨(m + 1, j), by simp only; omega, hj, fun k y' hk hy' => ?_, h2⟩, ?_, by simp only; omega⟩
      · rcases Nat.lt_or_ge k m with hkm | hkm
        · have := asc_lt l none ha k m y' y hkm hy' hy1; omega
        · obtain rfl : k = m := by omega
          rw [hy1] at hy'; simp at hy'; omega
      · simp [Weak, TW, encInts_eq, hw]
      repeat first | refine thenN ?_ | refine thenX ?_ | refine thenR ?_ | refine blockN ?_ | refine blockR ?_ | refine blockX ?_ | refine blockM rfl ?_
      skip
    · try simp at h27
      -- region 7
      refine AWp.rend E_ok [0, 1, 4, 5, 6, 7, 8, 9, 15, 27] fun K hK => ?_
      simp [encInts_eq, h15, hm, hlt, hy1, hy2, h27]
      repeat refine ⟨by first | omega | assumption | decide | (simp only [maxLen]; omega) | (intros; omega), ?_⟩
      refine hK _ ?_
      clear hK K
      refine ⟨⟨(i, m), by simp only; omega, by simp only; omega, h1, fun k y' hk hy' => ?_⟩, ?_, by simp only; omega⟩
      · rcases Nat.lt_or_ge m k with hkm | hkm
        · have := asc_lt l none ha m k y y' hkm hy1 hy'; omega
        · obtain rfl : k = m := by omega
          rw [hy1] at hy'; simp at hy'; omega
      · simp [Weak, TW, encInts_eq]
      repeat first | refine thenN ?_ | refine thenX ?_ | refine thenR ?_ | refine blockN ?_ | refine blockR ?_ | refine blockX ?_ | refine blockM rfl ?_
      skip
  · try simp at h15
    refine AWp.exit ?_
    repeat first | refine thenN ?_ | refine thenX ?_ | refine thenR ?_ | refine blockN ?_ | refine blockR ?_ | refine blockX ?_ | refine blockM rfl ?_
    -- region 8
    refine AWp.rseq E_ok [0, 1, 4, 5, 6, 7, 8, 9, 15, 27] fun K hK => ?_
    simp [encInts_eq, h15]
    repeat refine ⟨by first | omega | assumption | decide | (simp only [maxLen]; omega) | (intros; omega), ?_⟩
    refine meet.of (slices_isNaN_int _) ?_
    simp [encInts_eq, h15]
    repeat refine ⟨by first | omega | assumption | decide | (simp only [maxLen]; omega) | (intros; omega), ?_⟩
    refine meet.of (slices_isNaN_int _) ?_
    simp [encInts_eq, h15]
    repeat refine ⟨by first | omega | assumption | decide | (simp only [maxLen]; omega) | (intros; omega), ?_⟩
    refine hK _ ?_
    clear hK K
    refine AWp.ret ?_
    repeat first | refine thenN ?_ | refine thenX ?_ | refine thenR ?_ | refine blockN ?_ | refine blockR ?_ | refine blockX ?_ | refine blockM rfl ?_
    simp [RetOk, RV, RVs]; obtain rfl : i = j := (by omega); exact bs_end ha hj h1 h2
end Go.Proofs.Ytkdcnpdjmkoicaa

set_option maxRecDepth 100000
set_option linter.unusedSimpArgs false
set_option linter.unusedVariables false
namespace Go.Proofs.Ytkdcnpdjmkoicaa
open Go Ab Lib
theorem calendar_week (c : Cal) : ACalls E.P 47 [encCal c] (.d (.agg (weekL c.week))) := by
  refine ACalls.intro E_ok Try.func47 rfl rfl Try.ntmps47 Try.results47 (Nat.le_of_ble_eq_true rfl) fun hok base S0 w0 => ?_
  -- region 0
  refine AWp.rseq E_ok [0, 1, 2, 3, 4, 5, 6] fun K hK => ?_
  simp [encCal_eq, encInts_eq]
  repeat refine ⟨by first | omega | assumption | decide | (simp only [maxLen]; omega) | (intros; omega), ?_⟩
  refine hK _ ?_
  clear hK K
  -- region 1
  refine AWp.rseq E_ok [0, 1, 2, 3, 4, 5, 6] fun K hK => ?_
  simp [encCal_eq, encInts_eq]
  repeat refine ⟨by first | omega | assumption | decide | (simp only [maxLen]; omega) | (intros; omega), ?_⟩
  refine hK _ ?_
  clear hK K
  refine AWp.seq ?_
  -- region 2
  refine AWp.rseq E_ok [0, 1, 2, 3, 4, 5, 6] fun K hK => ?_
  simp [encCal_eq, encInts_eq]
  repeat refine ⟨by first | omega | assumption | decide | (simp only [maxLen]; omega) | (intros; omega), ?_⟩
  refine hK _ ?_
  clear hK K
  refine AWp.block ?_
  refine AWp.loop (ι := { k : Nat // k ≤ 7 }) (fun x => match x with | ⟨k, hk⟩ => [(0, T.val (encCal c)), (1, T.box [C.d (.int .i64 c.week), C.d (encInts c.closed)]), (2, T.box [C.d (.bool false), C.d (.bool false), C.d (.bool false), C.d (.bool false), C.d (.bool false), C.d (.bool false), C.d (.bool false)]), (3, T.box [C.d (.bool (decide (0 < k) && wkB c.week 0)), C.d (.bool (decide (1 < k) && wkB c.week 1)), C.d (.bool (decide (2 < k) && wkB c.week 2)), C.d (.bool (decide (3 < k) && wkB c.week 3)), C.d (.bool (decide (4 < k) && wkB c.week 4)), C.d (.bool (decide (5 < k) && wkB c.week 5)), C.d (.bool (decide (6 < k) && wkB c.week 6))]), (5, T.val (.int .i64 k))]) (fun x => match x with | ⟨k, hk⟩ => 7 - k) ⟨0, by omega⟩ ?_ ?_
  · simp [Weak, TW, encCal_eq, encInts_eq]
  rintro ⟨k, hk⟩
  simp only
  try simp only at hk
  -- region 3
  refine AWp.rseq E_ok [0, 1, 2, 3, 4, 5, 6] fun K hK => ?_
  simp [encCal_eq, encInts_eq]
  repeat refine ⟨by first | omega | assumption | decide | (simp only [maxLen]; omega) | (intros; omega), ?_⟩
  refine hK _ ?_
  clear hK K
  refine AWp.seq ?_
  refine AWp.cond rfl (fun h6 => ?_) (fun h6 => ?_)
  · try simp at h6
    refine AWp.skip ?_
    repeat first | refine thenN ?_ | refine thenX ?_ | refine thenR ?_ | refine blockN ?_ | refine blockR ?_ | refine blockX ?_ | refine blockM rfl ?_
    refine AWp.seq ?_
    refine AWp.block ?_
    -- region 4
    refine AWp.rseq E_ok [0, 1, 2, 3, 4, 5, 6] fun K hK => ?_
    simp [encCal_eq, encInts_eq, h6]
    repeat refine ⟨by first | omega | assumption | decide | (simp only [maxLen]; omega) | (intros; omega), ?_⟩
    refine hK _ ?_
    clear hK K
    -- region 5
    refine AWp.rend E_ok [0, 1, 2, 3, 4, 5, 6] fun K hK => ?_
    simp [encCal_eq, encInts_eq, h6]
    repeat refine ⟨by first | omega | assumption | decide | (simp only [maxLen]; omega) | (intros; omega), ?_⟩
    refine hK _ ?_
    clear hK K
    repeat first | refine thenN ?_ | refine thenX ?_ | refine thenR ?_ | refine blockN ?_ | refine blockR ?_ | refine blockX ?_ | refine blockM rfl ?_
    -- region 6
    refine AWp.rend E_ok [0, 1, 2, 3, 4, 5, 6] fun K hK => ?_
    simp [encCal_eq, encInts_eq, h6]
    repeat refine ⟨by first | omega | assumption | decide | (simp only [maxLen]; omega) | (intros; omega), ?_⟩
    refine hK _ ?_
    clear hK K
    repeat first | refine thenN ?_ | refine thenX ?_ | refine thenR ?_ | refine blockN ?_ | refine blockR ?_ | refine blockX ?_ | refine blockM rfl ?_
    have hw : IntKind.i64.wrap ((k : Int) + 1) = (k : Int) + 1 := by rw [wrap_i64] <;> omega
    have hk7 : k = 0 ∨ k = 1 ∨ k = 2 ∨ k = 3 ∨ k = 4 ∨ k = 5 ∨ k = 6 := by omega
    refine ⟨⟨k + 1, by omega⟩, ?_, by simp only; omega⟩
    rcases hk7 with rfl | rfl | rfl | rfl | rfl | rfl | rfl <;> simp at hw <;> simp [Weak, TW, encCal_eq, encInts_eq, wkB, hw]
  · try simp at h6
    obtain rfl : k = 7 := by omega
    refine AWp.exit ?_
    repeat first | refine thenN ?_ | refine thenX ?_ | refine thenR ?_ | refine blockN ?_ | refine blockR ?_ | refine blockX ?_ | refine blockM rfl ?_
    -- region 7
    refine AWp.rseq E_ok [0, 1, 2, 3, 4, 5, 6] fun K hK => ?_
    simp [encCal_eq, encInts_eq, h6]
    repeat refine ⟨by first | omega | assumption | decide | (simp only [maxLen]; omega) | (intros; omega), ?_⟩
    refine hK _ ?_
    clear hK K
    refine AWp.ret ?_
    repeat first | refine thenN ?_ | refine thenX ?_ | refine thenR ?_ | refine blockN ?_ | refine blockR ?_ | refine blockX ?_ | refine blockM rfl ?_
    simp [RetOk, RV, weekL]
end Go.Proofs.Ytkdcnpdjmkoicaa

set_option maxRecDepth 100000
set_option linter.unusedSimpArgs false
set_option linter.unusedVariables false
namespace Go.Proofs.Ytkdcnpdjmkoicaa
open Go Ab Lib
theorem date_known (n : Int) : ACalls E.P 55 [.int .i64 n] (.d (.bool (isDay n))) := by
  refine ACalls.intro E_ok Try.func55 rfl rfl Try.ntmps55 Try.results55 (Nat.le_of_ble_eq_true rfl) fun hok base S0 w0 => ?_
  -- region 0
  refine AWp.rseq E_ok [0, 2] fun K hK => ?_
  simp
  repeat refine ⟨by first | omega | assumption | decide | (simp only [maxLen]; omega) | (intros; omega), ?_⟩
  refine hK _ ?_
  clear hK K
  -- region 1
  refine AWp.rseq E_ok [0, 2] fun K hK => ?_
  simp
  repeat refine ⟨by first | omega | assumption | decide | (simp only [maxLen]; omega) | (intros; omega), ?_⟩
  refine hK _ ?_
  clear hK K
  refine AWp.ret ?_
  repeat first | refine thenN ?_ | refine thenX ?_ | refine thenR ?_ | refine blockN ?_ | refine blockR ?_ | refine blockX ?_ | refine blockM rfl ?_
  simp [RetOk, RV, isDay]
end Go.Proofs.Ytkdcnpdjmkoicaa

set_option maxRecDepth 100000
set_option linter.unusedSimpArgs false
set_option linter.unusedVariables false
namespace Go.Proofs.Ytkdcnpdjmkoicaa
open Go Ab Lib
theorem date_Weekday (n : Int) : ACalls E.P 48 [.int .i64 n] (.d (.int .i64 (wday n))) := by
  refine ACalls.intro E_ok Try.func48 rfl rfl Try.ntmps48 Try.results48 (Nat.le_of_ble_eq_true rfl) fun hok base S0 w0 => ?_
  -- region 0
  refine AWp.rseq E_ok [0, 2, 5] fun K hK => ?_
  simp
  repeat refine ⟨by first | omega | assumption | decide | (simp only [maxLen]; omega) | (intros; omega), ?_⟩
  refine hK _ ?_
  clear hK K
  refine AWp.seq ?_
  -- region 1
  refine AWp.rseq E_ok [0, 2, 5] fun K hK => ?_
  simp
  repeat refine ⟨by first | omega | assumption | decide | (simp only [maxLen]; omega) | (intros; omega), ?_⟩
  refine meet.of (date_known _) ?_
  simp
  repeat refine ⟨by first | omega | assumption | decide | (simp only [maxLen]; omega) | (intros; omega), ?_⟩
  refine hK _ ?_
  clear hK K
  refine AWp.cond rfl (fun h5 => ?_) (fun h5 => ?_)
  · try simp at h5
    -- region 2
    refine AWp.rseq E_ok [0, 2, 5] fun K hK => ?_
    simp [h5]
    repeat refine ⟨by first | omega | assumption | decide | (simp only [maxLen]; omega) | (intros; omega), ?_⟩
    refine hK _ ?_
    clear hK K
    refine AWp.ret ?_
    repeat first | refine thenN ?_ | refine thenX ?_ | refine thenR ?_ | refine blockN ?_ | refine blockR ?_ | refine blockX ?_ | refine blockM rfl ?_
    simp [RetOk, RV, wday, h5]
  · try simp at h5
    refine AWp.skip ?_
    repeat first | refine thenN ?_ | refine thenX ?_ | refine thenR ?_ | refine blockN ?_ | refine blockR ?_ | refine blockX ?_ | refine blockM rfl ?_
    -- region 3
    refine AWp.rseq E_ok [0, 2, 5] fun K hK => ?_
    simp [h5]
    repeat refine ⟨by first | omega | assumption | decide | (simp only [maxLen]; omega) | (intros; omega), ?_⟩
    refine hK _ ?_
    clear hK K
    refine AWp.ret ?_
    repeat first | refine thenN ?_ | refine thenX ?_ | refine thenR ?_ | refine blockN ?_ | refine blockR ?_ | refine blockX ?_ | refine blockM rfl ?_
    simp [RetOk, RV, wday, h5]
end Go.Proofs.Ytkdcnpdjmkoicaa

set_option maxRecDepth 100000
set_option linter.unusedSimpArgs false
set_option linter.unusedVariables false
namespace Go.Proofs.Ytkdcnpdjmkoicaa
open Go Ab Lib
theorem calendar_Open (c : Cal) (d : Int) (hc : calR c = 0) : ACalls E.P 29 [encCal c, .int .i64 d] (.d (.bool (openR c d))) := by
  refine ACalls.intro E_ok Try.func29 rfl rfl Try.ntmps29 Try.results29 (Nat.le_of_ble_eq_true rfl) fun hok base S0 w0 => ?_
  -- region 0
  refine AWp.rseq E_ok [0, 1, 2, 4, 6, 9] fun K hK => ?_
  simp [encCal_eq, encInts_eq]
  repeat refine ⟨by first | omega | assumption | decide | (simp only [maxLen]; omega) | (intros; omega), ?_⟩
  refine hK _ ?_
  clear hK K
  refine AWp.seq ?_
  -- region 1
  refine AWp.rseq E_ok [0, 1, 2, 4, 6, 9] fun K hK => ?_
  simp [encCal_eq, encInts_eq]
  repeat refine ⟨by first | omega | assumption | decide | (simp only [maxLen]; omega) | (intros; omega), ?_⟩
  refine meet.of (calendar_isDay _) ?_
  simp [encCal_eq, encInts_eq]
  repeat refine ⟨by first | omega | assumption | decide | (simp only [maxLen]; omega) | (intros; omega), ?_⟩
  refine hK _ ?_
  clear hK K
  refine AWp.cond rfl (fun h9 => ?_) (fun h9 => ?_)
  · try simp at h9
    -- region 2
    refine AWp.rseq E_ok [0, 1, 2, 4, 6, 9] fun K hK => ?_
    simp [encCal_eq, encInts_eq, h9]
    repeat refine ⟨by first | omega | assumption | decide | (simp only [maxLen]; omega) | (intros; omega), ?_⟩
    refine hK _ ?_
    clear hK K
    refine AWp.ret ?_
    repeat first | refine thenN ?_ | refine thenX ?_ | refine thenR ?_ | refine blockN ?_ | refine blockR ?_ | refine blockX ?_ | refine blockM rfl ?_
    first | (rw [openR_out (by simp [isDay] at h9; omega)]; simp [RetOk, RV]; done) | (rw [openR_eq2 hc hd.1 hd.2]; simp [RetOk, RV, hw.2])
  · try simp at h9
    have hd : 0 ≤ d ∧ d ≤ 109572 := by simp [isDay] at h9; exact h9
    have hw := wday_rng hd.1 hd.2
    refine AWp.skip ?_
    repeat first | refine thenN ?_ | refine thenX ?_ | refine thenR ?_ | refine blockN ?_ | refine blockR ?_ | refine blockX ?_ | refine blockM rfl ?_
    -- region 3
    refine AWp.rseq E_ok [0, 1, 2, 4, 6, 9] fun K hK => ?_
    simp [encCal_eq, encInts_eq, h9]
    repeat refine ⟨by first | omega | assumption | decide | (simp only [maxLen]; omega) | (intros; omega), ?_⟩
    refine meet.of (slices_BinarySearch_int_int c.closed d (by have := cal_len64 hc; omega) (cal_asc hc)) ?_
    simp [encCal_eq, encInts_eq, h9]
    repeat refine ⟨by first | omega | assumption | decide | (simp only [maxLen]; omega) | (intros; omega), ?_⟩
    refine hK _ ?_
    clear hK K
    -- region 4
    refine AWp.rseq E_ok [0, 1, 2, 4, 6, 9] fun K hK => ?_
    simp [encCal_eq, encInts_eq, h9]
    repeat refine ⟨by first | omega | assumption | decide | (simp only [maxLen]; omega) | (intros; omega), ?_⟩
    refine meet.of (calendar_week c) ?_
    simp [encCal_eq, encInts_eq, h9]
    repeat refine ⟨by first | omega | assumption | decide | (simp only [maxLen]; omega) | (intros; omega), ?_⟩
    refine meet.of (date_Weekday d) ?_
    simp [encCal_eq, encInts_eq, h9]
    refine ⟨fun _ => ⟨hw.1, by omega⟩, ?_⟩
    repeat refine ⟨by first | omega | assumption | decide | (simp only [maxLen]; omega) | (intros; omega), ?_⟩
    refine hK _ ?_
    clear hK K
    refine AWp.ret ?_
    repeat first | refine thenN ?_ | refine thenX ?_ | refine thenR ?_ | refine blockN ?_ | refine blockR ?_ | refine blockX ?_ | refine blockM rfl ?_
    first | (rw [openR_out (by simp [isDay] at h9; omega)]; simp [RetOk, RV]; done) | (rw [openR_eq2 hc hd.1 hd.2]; simp [RetOk, RV, hw.2])
end Go.Proofs.Ytkdcnpdjmkoicaa

set_option maxRecDepth 100000
set_option linter.unusedSimpArgs false
set_option linter.unusedVariables false
namespace Go.Proofs.Ytkdcnpdjmkoicaa
open Go Ab Lib
theorem calendar_Next (c : Cal) (d : Int) (hc : calR c = 0) : ACalls E.P 38 [encCal c, .int .i64 d] (.tup [.int .i64 (nextR c d).1, .int .i64 (nextR c d).2]) := by
  refine ACalls.intro E_ok Try.func38 rfl rfl Try.ntmps38 Try.results38 (Nat.le_of_ble_eq_true rfl) fun hok base S0 w0 => ?_
  -- region 0
  refine AWp.rseq E_ok [0, 1, 2, 4, 5, 6, 10, 15] fun K hK => ?_
  simp [encCal_eq, encInts_eq, lo0]
  repeat refine ⟨by first | omega | assumption | decide | (simp only [maxLen]; omega) | (intros; omega), ?_⟩
  refine hK _ ?_
  clear hK K
  refine AWp.seq ?_
  -- region 1
  refine AWp.rseq E_ok [0, 1, 2, 4, 5, 6, 10, 15] fun K hK => ?_
  simp [encCal_eq, encInts_eq, lo0]
  repeat refine ⟨by first | omega | assumption | decide | (simp only [maxLen]; omega) | (intros; omega), ?_⟩
  refine hK _ ?_
  clear hK K
  refine AWp.block ?_
  refine AWp.loop (ι := { x : Int // 0 ≤ x ∧ nextN c (109573 - x).toNat x = nextR c d }) (fun x => match x with | ⟨x, hx, hs⟩ => [(0, T.val (D.agg [D.int IntKind.i64 c.week, (D.int IntKind.i64 0).slice (List.map (D.int IntKind.i64) c.closed)])), (1, T.val (D.int IntKind.i64 d)), (2, T.box [C.d (D.int IntKind.i64 c.week), C.d ((D.int IntKind.i64 0).slice (List.map (D.int IntKind.i64) c.closed))]), (6, T.val (.int .i64 x))]) (fun x => match x with | ⟨x, hx, hs⟩ => (109573 - x).toNat) ⟨lo0 d, (lo0_rng d).1, rfl⟩ ?_ ?_
  · simp [Weak, TW, encCal_eq, encInts_eq, lo0]
  rintro ⟨x, hx, hs⟩
  simp only
  try simp only at hx
  try simp only at hs
  refine AWp.seq ?_
  -- region 2
  refine AWp.rseq E_ok [0, 1, 2, 4, 5, 6, 10, 15] fun K hK => ?_
  simp [encCal_eq, encInts_eq, lo0]
  repeat refine ⟨by first | omega | assumption | decide | (simp only [maxLen]; omega) | (intros; omega), ?_⟩
  refine hK _ ?_
  clear hK K
  refine AWp.cond rfl (fun h10 => ?_) (fun h10 => ?_)
  · try simp at h10
    have hz : (109573 - x).toNat = (109573 - (x + 1)).toNat + 1 := by omega
    rw [hz, nextN] at hs
    refine AWp.skip ?_
    repeat first | refine thenN ?_ | refine thenX ?_ | refine thenR ?_ | refine blockN ?_ | refine blockR ?_ | refine blockX ?_ | refine blockM rfl ?_
    refine AWp.seq ?_
    refine AWp.block ?_
    -- region 4
    refine AWp.rseq E_ok [0, 1, 2, 4, 5, 6, 10, 15] fun K hK => ?_
    simp [encCal_eq, encInts_eq, lo0]
    repeat refine ⟨by first | omega | assumption | decide | (simp only [maxLen]; omega) | (intros; omega), ?_⟩
    refine meet.of (calendar_Open c x hc) ?_
    simp [encCal_eq, encInts_eq, lo0]
    repeat refine ⟨by first | omega | assumption | decide | (simp only [maxLen]; omega) | (intros; omega), ?_⟩
    refine hK _ ?_
    clear hK K
    refine AWp.cond rfl (fun h15 => ?_) (fun h15 => ?_)
    · try simp at h15
      rw [if_pos h15] at hs
      -- region 5
      refine AWp.rseq E_ok [0, 1, 2, 4, 5, 6, 10, 15] fun K hK => ?_
      simp [encCal_eq, encInts_eq, lo0]
      repeat refine ⟨by first | omega | assumption | decide | (simp only [maxLen]; omega) | (intros; omega), ?_⟩
      refine hK _ ?_
      clear hK K
      refine AWp.ret ?_
      repeat first | refine thenN ?_ | refine thenX ?_ | refine thenR ?_ | refine blockN ?_ | refine blockR ?_ | refine blockX ?_ | refine blockM rfl ?_
      simp [RetOk, RV, RVs, ← hs]
    · try simp at h15
      rw [if_neg (by simp [h15])] at hs
      refine AWp.skip ?_
      repeat first | refine thenN ?_ | refine thenX ?_ | refine thenR ?_ | refine blockN ?_ | refine blockR ?_ | refine blockX ?_ | refine blockM rfl ?_
      -- region 3
      refine AWp.rend E_ok [0, 1, 2, 4, 5, 6, 10, 15] fun K hK => ?_
      simp [encCal_eq, encInts_eq, lo0]
      repeat refine ⟨by first | omega | assumption | decide | (simp only [maxLen]; omega) | (intros; omega), ?_⟩
      refine hK _ ?_
      clear hK K
      repeat first | refine thenN ?_ | refine thenX ?_ | refine thenR ?_ | refine blockN ?_ | refine blockR ?_ | refine blockX ?_ | refine blockM rfl ?_
      have hw : IntKind.i64.wrap (x + 1) = x + 1 := by rw [wrap_i64] <;> omega
      refine ⟨⟨x + 1, by omega, hs⟩, ?_, by simp only; omega⟩
      simp [Weak, TW, encCal_eq, encInts_eq, hw]
  · try simp at h10
    have hz : (109573 - x).toNat = 0 := by omega
    rw [hz, nextN] at hs
    refine AWp.exit ?_
    repeat first | refine thenN ?_ | refine thenX ?_ | refine thenR ?_ | refine blockN ?_ | refine blockR ?_ | refine blockX ?_ | refine blockM rfl ?_
    -- region 6
    refine AWp.rseq E_ok [0, 1, 2, 4, 5, 6, 10, 15] fun K hK => ?_
    simp [encCal_eq, encInts_eq, lo0]
    repeat refine ⟨by first | omega | assumption | decide | (simp only [maxLen]; omega) | (intros; omega), ?_⟩
    refine hK _ ?_
    clear hK K
    refine AWp.ret ?_
    repeat first | refine thenN ?_ | refine thenX ?_ | refine thenR ?_ | refine blockN ?_ | refine blockR ?_ | refine blockX ?_ | refine blockM rfl ?_
    simp [RetOk, RV, RVs, ← hs]
end Go.Proofs.Ytkdcnpdjmkoicaa

set_option maxRecDepth 100000
set_option linter.unusedSimpArgs false
set_option linter.unusedVariables false
namespace Go.Proofs.Ytkdcnpdjmkoicaa
open Go Ab Lib
theorem calendar_Before (c : Cal) (d : Int) (hc : calR c = 0) : ACalls E.P 39 [encCal c, .int .i64 d] (.tup [.int .i64 (beforeR c d).1, .int .i64 (beforeR c d).2]) := by
  refine ACalls.intro E_ok Try.func39 rfl rfl Try.ntmps39 Try.results39 (Nat.le_of_ble_eq_true rfl) fun hok base S0 w0 => ?_
  -- region 0
  refine AWp.rseq E_ok [0, 1, 2, 4, 5, 6, 10, 15] fun K hK => ?_
  simp [encCal_eq, encInts_eq, hi0]
  repeat refine ⟨by first | omega | assumption | decide | (simp only [maxLen]; omega) | (intros; omega), ?_⟩
  refine hK _ ?_
  clear hK K
  refine AWp.seq ?_
  -- region 1
  refine AWp.rseq E_ok [0, 1, 2, 4, 5, 6, 10, 15] fun K hK => ?_
  simp [encCal_eq, encInts_eq, hi0]
  repeat refine ⟨by first | omega | assumption | decide | (simp only [maxLen]; omega) | (intros; omega), ?_⟩
  refine hK _ ?_
  clear hK K
  refine AWp.block ?_
  refine AWp.loop (ι := { x : Int // x ≤ 109572 ∧ beforeN c (x + 1).toNat x = beforeR c d }) (fun x => match x with | ⟨x, hx, hs⟩ => [(0, T.val (D.agg [D.int IntKind.i64 c.week, (D.int IntKind.i64 0).slice (List.map (D.int IntKind.i64) c.closed)])), (1, T.val (D.int IntKind.i64 d)), (2, T.box [C.d (D.int IntKind.i64 c.week), C.d ((D.int IntKind.i64 0).slice (List.map (D.int IntKind.i64) c.closed))]), (6, T.val (.int .i64 x))]) (fun x => match x with | ⟨x, hx, hs⟩ => (x + 1).toNat) ⟨hi0 d, (hi0_rng d).1, rfl⟩ ?_ ?_
  · simp [Weak, TW, encCal_eq, encInts_eq, hi0]
  rintro ⟨x, hx, hs⟩
  simp only
  try simp only at hx
  try simp only at hs
  refine AWp.seq ?_
  -- region 2
  refine AWp.rseq E_ok [0, 1, 2, 4, 5, 6, 10, 15] fun K hK => ?_
  simp [encCal_eq, encInts_eq, hi0]
  repeat refine ⟨by first | omega | assumption | decide | (simp only [maxLen]; omega) | (intros; omega), ?_⟩
  refine hK _ ?_
  clear hK K
  refine AWp.cond rfl (fun h10 => ?_) (fun h10 => ?_)
  · try simp at h10
    have hz : (x + 1).toNat = (x - 1 + 1).toNat + 1 := by omega
    rw [hz, beforeN] at hs
    refine AWp.skip ?_
    repeat first | refine thenN ?_ | refine thenX ?_ | refine thenR ?_ | refine blockN ?_ | refine blockR ?_ | refine blockX ?_ | refine blockM rfl ?_
    refine AWp.seq ?_
    refine AWp.block ?_
    -- region 4
    refine AWp.rseq E_ok [0, 1, 2, 4, 5, 6, 10, 15] fun K hK => ?_
    simp [encCal_eq, encInts_eq, hi0]
    repeat refine ⟨by first | omega | assumption | decide | (simp only [maxLen]; omega) | (intros; omega), ?_⟩
    refine meet.of (calendar_Open c x hc) ?_
    simp [encCal_eq, encInts_eq, hi0]
    repeat refine ⟨by first | omega | assumption | decide | (simp only [maxLen]; omega) | (intros; omega), ?_⟩
    refine hK _ ?_
    clear hK K
    refine AWp.cond rfl (fun h15 => ?_) (fun h15 => ?_)
    · try simp at h15
      rw [if_pos h15] at hs
      -- region 5
      refine AWp.rseq E_ok [0, 1, 2, 4, 5, 6, 10, 15] fun K hK => ?_
      simp [encCal_eq, encInts_eq, hi0]
      repeat refine ⟨by first | omega | assumption | decide | (simp only [maxLen]; omega) | (intros; omega), ?_⟩
      refine hK _ ?_
      clear hK K
      refine AWp.ret ?_
      repeat first | refine thenN ?_ | refine thenX ?_ | refine thenR ?_ | refine blockN ?_ | refine blockR ?_ | refine blockX ?_ | refine blockM rfl ?_
      simp [RetOk, RV, RVs, ← hs]
    · try simp at h15
      rw [if_neg (by simp [h15])] at hs
      refine AWp.skip ?_
      repeat first | refine thenN ?_ | refine thenX ?_ | refine thenR ?_ | refine blockN ?_ | refine blockR ?_ | refine blockX ?_ | refine blockM rfl ?_
      -- region 3
      refine AWp.rend E_ok [0, 1, 2, 4, 5, 6, 10, 15] fun K hK => ?_
      simp [encCal_eq, encInts_eq, hi0]
      repeat refine ⟨by first | omega | assumption | decide | (simp only [maxLen]; omega) | (intros; omega), ?_⟩
      refine hK _ ?_
      clear hK K
      repeat first | refine thenN ?_ | refine thenX ?_ | refine thenR ?_ | refine blockN ?_ | refine blockR ?_ | refine blockX ?_ | refine blockM rfl ?_
      have hw : IntKind.i64.wrap (x - 1) = x - 1 := by rw [wrap_i64] <;> omega
      refine ⟨⟨x - 1, by omega, hs⟩, ?_, by simp only; omega⟩
      simp [Weak, TW, encCal_eq, encInts_eq, hw]
  · try simp at h10
    have hz : (x + 1).toNat = 0 := by omega
    rw [hz, beforeN] at hs
    refine AWp.exit ?_
    repeat first | refine thenN ?_ | refine thenX ?_ | refine thenR ?_ | refine blockN ?_ | refine blockR ?_ | refine blockX ?_ | refine blockM rfl ?_
    -- region 6
    refine AWp.rseq E_ok [0, 1, 2, 4, 5, 6, 10, 15] fun K hK => ?_
    simp [encCal_eq, encInts_eq, hi0]
    repeat refine ⟨by first | omega | assumption | decide | (simp only [maxLen]; omega) | (intros; omega), ?_⟩
    refine hK _ ?_
    clear hK K
    refine AWp.ret ?_
    repeat first | refine thenN ?_ | refine thenX ?_ | refine thenR ?_ | refine blockN ?_ | refine blockR ?_ | refine blockX ?_ | refine blockM rfl ?_
    simp [RetOk, RV, RVs, ← hs]
end Go.Proofs.Ytkdcnpdjmkoicaa

set_option maxRecDepth 100000
set_option linter.unusedSimpArgs false
set_option linter.unusedVariables false
namespace Go.Proofs.Ytkdcnpdjmkoicaa
open Go Ab Lib
theorem policy_Due (r : Rule) (c : Cal) (d u : Int) (hc : calR c = 0) : ACalls E.P 20 [encRule r, encCal c, .int .i64 d, .int .i64 u] (.tup [.int .i64 (dueR r c d u).1, .int .i64 (dueR r c d u).2]) := by
  refine ACalls.intro E_ok Try.func20 rfl rfl Try.ntmps20 Try.results20 (Nat.le_of_ble_eq_true rfl) fun hok base S0 w0 => ?_
  -- region 0
  refine AWp.rseq E_ok [0, 1, 2, 3, 4, 5, 8, 9, 10, 11, 12, 13, 14, 22, 26, 38, 56, 70] fun K hK => ?_
  simp [encRule_eq, encCal_eq, encInts_eq]
  repeat refine ⟨by first | omega | assumption | decide | (simp only [maxLen]; omega) | (intros; omega), ?_⟩
  refine hK _ ?_
  clear hK K
  refine AWp.seq ?_
  -- region 1
  refine AWp.rseq E_ok [0, 1, 2, 3, 4, 5, 8, 9, 10, 11, 12, 13, 14, 22, 26, 38, 56, 70] fun K hK => ?_
  simp [encRule_eq, encCal_eq, encInts_eq]
  repeat refine ⟨by first | omega | assumption | decide | (simp only [maxLen]; omega) | (intros; omega), ?_⟩
  refine meet.of (policy_within _ _ _) ?_
  simp [encRule_eq, encCal_eq, encInts_eq]
  repeat refine ⟨by first | omega | assumption | decide | (simp only [maxLen]; omega) | (intros; omega), ?_⟩
  refine meet.of (policy_within _ _ _) ?_
  simp [encRule_eq, encCal_eq, encInts_eq]
  repeat refine ⟨by first | omega | assumption | decide | (simp only [maxLen]; omega) | (intros; omega), ?_⟩
  refine hK _ ?_
  clear hK K
  refine AWp.cond rfl (fun h22 => ?_) (fun h22 => ?_)
  · try simp at h22
    -- region 2
    refine AWp.rseq E_ok [0, 1, 2, 3, 4, 5, 8, 9, 10, 11, 12, 13, 14, 22, 26, 38, 56, 70] fun K hK => ?_
    simp [encRule_eq, encCal_eq, encInts_eq, h22]
    repeat refine ⟨by first | omega | assumption | decide | (simp only [maxLen]; omega) | (intros; omega), ?_⟩
    refine hK _ ?_
    clear hK K
    refine AWp.ret ?_
    repeat first | refine thenN ?_ | refine thenX ?_ | refine thenR ?_ | refine blockN ?_ | refine blockR ?_ | refine blockX ?_ | refine blockM rfl ?_
    first | (rw [due_a h22]; simp [RetOk, RV, RVs]; done) | (rw [due_b h22 h38]; simp [RetOk, RV, RVs]; done) | (rw [due_c h22 h38 h56']; simp [RetOk, RV, RVs, dueA, minI]; done) | (rw [due_d h22 h38 h56' h70]; simp [RetOk, RV, RVs]; done) | (rw [due_e h22 h38 h56' h70]; simp [RetOk, RV, RVs])
  · try simp at h22
    refine AWp.skip ?_
    repeat first | refine thenN ?_ | refine thenX ?_ | refine thenR ?_ | refine blockN ?_ | refine blockR ?_ | refine blockX ?_ | refine blockM rfl ?_
    -- region 3
    refine AWp.rseq E_ok [0, 1, 2, 3, 4, 5, 8, 9, 10, 11, 12, 13, 14, 22, 26, 38, 56, 70] fun K hK => ?_
    simp [encRule_eq, encCal_eq, encInts_eq, h22]
    repeat refine ⟨by first | omega | assumption | decide | (simp only [maxLen]; omega) | (intros; omega), ?_⟩
    refine hK _ ?_
    clear hK K
    refine AWp.join (ι := Unit) (fun _ => [(0, T.val (D.agg [D.int IntKind.i64 r.r0, D.int IntKind.i64 r.r1, D.int IntKind.i64 r.r2, D.int IntKind.i64 r.r3, D.int IntKind.i64 r.r4, D.int IntKind.i64 r.fine, D.int IntKind.i64 r.grace, D.int IntKind.i64 r.maxFine, D.int IntKind.i64 r.r8, D.int IntKind.i64 r.r9, D.int IntKind.i64 r.r10, D.int IntKind.i64 r.r11, D.int IntKind.i64 r.r12])), (1, T.val (D.agg [D.int IntKind.i64 c.week, (D.int IntKind.i64 0).slice (List.map (D.int IntKind.i64) c.closed)])), (2, T.val (D.int IntKind.i64 d)), (3, T.val (D.int IntKind.i64 u)), (4, T.box [C.d (D.int IntKind.i64 r.r0), C.d (D.int IntKind.i64 r.r1), C.d (D.int IntKind.i64 r.r2), C.d (D.int IntKind.i64 r.r3), C.d (D.int IntKind.i64 r.r4), C.d (D.int IntKind.i64 r.fine), C.d (D.int IntKind.i64 r.grace), C.d (D.int IntKind.i64 r.maxFine), C.d (D.int IntKind.i64 r.r8), C.d (D.int IntKind.i64 r.r9), C.d (D.int IntKind.i64 r.r10), C.d (D.int IntKind.i64 r.r11), C.d (D.int IntKind.i64 r.r12)]), (5, T.box [C.d (D.int IntKind.i64 c.week), C.d ((D.int IntKind.i64 0).slice (List.map (D.int IntKind.i64) c.closed))]), (10, T.val (.int .i64 (lastR r u)))]) ?_ ?_
    · skip
      -- region 4
      refine AWp.rseq E_ok [0, 1, 2, 3, 4, 5, 8, 9, 10, 11, 12, 13, 14, 22, 26, 38, 56, 70] fun K hK => ?_
      simp [encRule_eq, encCal_eq, encInts_eq, h22]
      repeat refine ⟨by first | omega | assumption | decide | (simp only [maxLen]; omega) | (intros; omega), ?_⟩
      refine hK _ ?_
      clear hK K
      refine AWp.cond rfl (fun h26 => ?_) (fun h26 => ?_)
      · try simp at h26
        -- region 5
        refine AWp.rend E_ok [0, 1, 2, 3, 4, 5, 8, 9, 10, 11, 12, 13, 14, 22, 26, 38, 56, 70] fun K hK => ?_
        simp [encRule_eq, encCal_eq, encInts_eq, h22, h26]
        repeat refine ⟨by first | omega | assumption | decide | (simp only [maxLen]; omega) | (intros; omega), ?_⟩
        refine hK _ ?_
        clear hK K
        repeat first | refine thenN ?_ | refine thenX ?_ | refine thenR ?_ | refine blockN ?_ | refine blockR ?_ | refine blockX ?_ | refine blockM rfl ?_
        refine ⟨(), ?_⟩
        simp [Weak, TW, encRule_eq, encCal_eq, encInts_eq, h22, h26, lastR]
        all_goals (intros; omega)
      · try simp at h26
        refine AWp.skip ?_
        repeat first | refine thenN ?_ | refine thenX ?_ | refine thenR ?_ | refine blockN ?_ | refine blockR ?_ | refine blockX ?_ | refine blockM rfl ?_
        refine ⟨(), ?_⟩
        simp [Weak, TW, encRule_eq, encCal_eq, encInts_eq, h22, h26, lastR]
        all_goals (intros; omega)
    rintro ⟨⟩
    try simp only
    refine AWp.seq ?_
    -- region 6
    refine AWp.rseq E_ok [0, 1, 2, 3, 4, 5, 8, 9, 10, 11, 12, 13, 14, 22, 26, 38, 56, 70] fun K hK => ?_
    simp [encRule_eq, encCal_eq, encInts_eq, h22]
    repeat refine ⟨by first | omega | assumption | decide | (simp only [maxLen]; omega) | (intros; omega), ?_⟩
    refine hK _ ?_
    clear hK K
    refine AWp.cond rfl (fun h38 => ?_) (fun h38 => ?_)
    · try simp at h38
      -- region 7
      refine AWp.rseq E_ok [0, 1, 2, 3, 4, 5, 8, 9, 10, 11, 12, 13, 14, 22, 26, 38, 56, 70] fun K hK => ?_
      simp [encRule_eq, encCal_eq, encInts_eq, h22, h38]
      repeat refine ⟨by first | omega | assumption | decide | (simp only [maxLen]; omega) | (intros; omega), ?_⟩
      refine hK _ ?_
      clear hK K
      refine AWp.ret ?_
      repeat first | refine thenN ?_ | refine thenX ?_ | refine thenR ?_ | refine blockN ?_ | refine blockR ?_ | refine blockX ?_ | refine blockM rfl ?_
      first | (rw [due_a h22]; simp [RetOk, RV, RVs]; done) | (rw [due_b h22 h38]; simp [RetOk, RV, RVs]; done) | (rw [due_c h22 h38 h56']; simp [RetOk, RV, RVs, dueA, minI]; done) | (rw [due_d h22 h38 h56' h70]; simp [RetOk, RV, RVs]; done) | (rw [due_e h22 h38 h56' h70]; simp [RetOk, RV, RVs])
    · try simp at h38
      refine AWp.skip ?_
      repeat first | refine thenN ?_ | refine thenX ?_ | refine thenR ?_ | refine blockN ?_ | refine blockR ?_ | refine blockX ?_ | refine blockM rfl ?_
      refine AWp.seq ?_
      -- region 8
      refine AWp.rseq E_ok [0, 1, 2, 3, 4, 5, 8, 9, 10, 11, 12, 13, 14, 22, 26, 38, 56, 70] fun K hK => ?_
      simp [encRule_eq, encCal_eq, encInts_eq, h22, h38]
      repeat refine ⟨by first | omega | assumption | decide | (simp only [maxLen]; omega) | (intros; omega), ?_⟩
      refine meet.of (calendar_Next c _ hc) ?_
      simp [encRule_eq, encCal_eq, encInts_eq, h22, h38]
      repeat refine ⟨by first | omega | assumption | decide | (simp only [maxLen]; omega) | (intros; omega), ?_⟩
      refine hK _ ?_
      clear hK K
      -- region 9
      refine AWp.rseq E_ok [0, 1, 2, 3, 4, 5, 8, 9, 10, 11, 12, 13, 14, 22, 26, 38, 56, 70] fun K hK => ?_
      simp [encRule_eq, encCal_eq, encInts_eq, h22, h38]
      repeat refine ⟨by first | omega | assumption | decide | (simp only [maxLen]; omega) | (intros; omega), ?_⟩
      refine hK _ ?_
      clear hK K
      refine AWp.cond rfl (fun h56 => ?_) (fun h56 => ?_)
      · try simp at h56
        have h56' : (dueA r c d u).2 = 0 ∧ (dueA r c d u).1 ≤ lastR r u := h56
        -- region 10
        refine AWp.rseq E_ok [0, 1, 2, 3, 4, 5, 8, 9, 10, 11, 12, 13, 14, 22, 26, 38, 56, 70] fun K hK => ?_
        simp [encRule_eq, encCal_eq, encInts_eq, h22, h38]
        repeat refine ⟨by first | omega | assumption | decide | (simp only [maxLen]; omega) | (intros; omega), ?_⟩
        refine hK _ ?_
        clear hK K
        refine AWp.ret ?_
        repeat first | refine thenN ?_ | refine thenX ?_ | refine thenR ?_ | refine blockN ?_ | refine blockR ?_ | refine blockX ?_ | refine blockM rfl ?_
        first | (rw [due_a h22]; simp [RetOk, RV, RVs]; done) | (rw [due_b h22 h38]; simp [RetOk, RV, RVs]; done) | (rw [due_c h22 h38 h56']; simp [RetOk, RV, RVs, dueA, minI]; done) | (rw [due_d h22 h38 h56' h70]; simp [RetOk, RV, RVs]; done) | (rw [due_e h22 h38 h56' h70]; simp [RetOk, RV, RVs])
      · try simp at h56
        have h56' : ¬ ((dueA r c d u).2 = 0 ∧ (dueA r c d u).1 ≤ lastR r u) := by rintro ⟨a, b⟩; have := h56 a; simp only [dueA, minI] at b; omega
        refine AWp.skip ?_
        repeat first | refine thenN ?_ | refine thenX ?_ | refine thenR ?_ | refine blockN ?_ | refine blockR ?_ | refine blockX ?_ | refine blockM rfl ?_
        -- region 11
        refine AWp.rseq E_ok [0, 1, 2, 3, 4, 5, 8, 9, 10, 11, 12, 13, 14, 22, 26, 38, 56, 70] fun K hK => ?_
        simp [encRule_eq, encCal_eq, encInts_eq, h22, h38]
        repeat refine ⟨by first | omega | assumption | decide | (simp only [maxLen]; omega) | (intros; omega), ?_⟩
        refine meet.of (calendar_Before c _ hc) ?_
        simp [encRule_eq, encCal_eq, encInts_eq, h22, h38]
        repeat refine ⟨by first | omega | assumption | decide | (simp only [maxLen]; omega) | (intros; omega), ?_⟩
        refine hK _ ?_
        clear hK K
        refine AWp.seq ?_
        -- region 12
        refine AWp.rseq E_ok [0, 1, 2, 3, 4, 5, 8, 9, 10, 11, 12, 13, 14, 22, 26, 38, 56, 70] fun K hK => ?_
        simp [encRule_eq, encCal_eq, encInts_eq, h22, h38]
        repeat refine ⟨by first | omega | assumption | decide | (simp only [maxLen]; omega) | (intros; omega), ?_⟩
        refine hK _ ?_
        clear hK K
        refine AWp.cond rfl (fun h70 => ?_) (fun h70 => ?_)
        · try simp at h70
          -- region 13
          refine AWp.rseq E_ok [0, 1, 2, 3, 4, 5, 8, 9, 10, 11, 12, 13, 14, 22, 26, 38, 56, 70] fun K hK => ?_
          simp [encRule_eq, encCal_eq, encInts_eq, h22, h38]
          repeat refine ⟨by first | omega | assumption | decide | (simp only [maxLen]; omega) | (intros; omega), ?_⟩
          refine hK _ ?_
          clear hK K
          refine AWp.ret ?_
          repeat first | refine thenN ?_ | refine thenX ?_ | refine thenR ?_ | refine blockN ?_ | refine blockR ?_ | refine blockX ?_ | refine blockM rfl ?_
          first | (rw [due_a h22]; simp [RetOk, RV, RVs]; done) | (rw [due_b h22 h38]; simp [RetOk, RV, RVs]; done) | (rw [due_c h22 h38 h56']; simp [RetOk, RV, RVs, dueA, minI]; done) | (rw [due_d h22 h38 h56' h70]; simp [RetOk, RV, RVs]; done) | (rw [due_e h22 h38 h56' h70]; simp [RetOk, RV, RVs])
        · try simp at h70
          refine AWp.skip ?_
          repeat first | refine thenN ?_ | refine thenX ?_ | refine thenR ?_ | refine blockN ?_ | refine blockR ?_ | refine blockX ?_ | refine blockM rfl ?_
          -- region 14
          refine AWp.rseq E_ok [0, 1, 2, 3, 4, 5, 8, 9, 10, 11, 12, 13, 14, 22, 26, 38, 56, 70] fun K hK => ?_
          simp [encRule_eq, encCal_eq, encInts_eq, h22, h38]
          repeat refine ⟨by first | omega | assumption | decide | (simp only [maxLen]; omega) | (intros; omega), ?_⟩
          refine hK _ ?_
          clear hK K
          refine AWp.ret ?_
          repeat first | refine thenN ?_ | refine thenX ?_ | refine thenR ?_ | refine blockN ?_ | refine blockR ?_ | refine blockX ?_ | refine blockM rfl ?_
          first | (rw [due_a h22]; simp [RetOk, RV, RVs]; done) | (rw [due_b h22 h38]; simp [RetOk, RV, RVs]; done) | (rw [due_c h22 h38 h56']; simp [RetOk, RV, RVs, dueA, minI]; done) | (rw [due_d h22 h38 h56' h70]; simp [RetOk, RV, RVs]; done) | (rw [due_e h22 h38 h56' h70]; simp [RetOk, RV, RVs])
end Go.Proofs.Ytkdcnpdjmkoicaa

set_option maxRecDepth 100000
set_option linter.unusedSimpArgs false
set_option linter.unusedVariables false
namespace Go.Proofs.Ytkdcnpdjmkoicaa
open Go Ab Lib
theorem policy_Renew (r : Rule) (c : Cal) (n : Loan) (d u : Int) (hc : calR c = 0) : ACalls E.P 22 [encRule r, encCal c, encLoan n, .int .i64 d, .int .i64 u] (.tup [.int .i64 (renR r c n d u).1, .int .i64 (renR r c n d u).2]) := by
  refine ACalls.intro E_ok Try.func22 rfl rfl Try.ntmps22 Try.results22 (Nat.le_of_ble_eq_true rfl) fun hok base S0 w0 => ?_
  -- region 0
  refine AWp.rseq E_ok [0, 1, 2, 3, 4, 5, 6, 7, 10, 11, 12, 13, 22, 32, 37] fun K hK => ?_
  simp [encRule_eq, encCal_eq, encInts_eq, encLoan_eq]
  repeat refine ⟨by first | omega | assumption | decide | (simp only [maxLen]; omega) | (intros; omega), ?_⟩
  refine hK _ ?_
  clear hK K
  refine AWp.seq ?_
  -- region 1
  refine AWp.rseq E_ok [0, 1, 2, 3, 4, 5, 6, 7, 10, 11, 12, 13, 22, 32, 37] fun K hK => ?_
  simp [encRule_eq, encCal_eq, encInts_eq, encLoan_eq]
  repeat refine ⟨by first | omega | assumption | decide | (simp only [maxLen]; omega) | (intros; omega), ?_⟩
  refine hK _ ?_
  clear hK K
  refine AWp.cond rfl (fun h22 => ?_) (fun h22 => ?_)
  · try simp at h22
    -- region 2
    refine AWp.rseq E_ok [0, 1, 2, 3, 4, 5, 6, 7, 10, 11, 12, 13, 22, 32, 37] fun K hK => ?_
    simp [encRule_eq, encCal_eq, encInts_eq, encLoan_eq, h22]
    repeat refine ⟨by first | omega | assumption | decide | (simp only [maxLen]; omega) | (intros; omega), ?_⟩
    refine hK _ ?_
    clear hK K
    refine AWp.ret ?_
    repeat first | refine thenN ?_ | refine thenX ?_ | refine thenR ?_ | refine blockN ?_ | refine blockR ?_ | refine blockX ?_ | refine blockM rfl ?_
    first | (rw [ren_a h22]; simp [RetOk, RV, RVs]; done) | (rw [ren_b h22 h32]; simp [RetOk, RV, RVs]; done) | (rw [ren_c h22 h32 h37]; simp [RetOk, RV, RVs]; done) | (rw [ren_d h22 h32 h37]; simp [RetOk, RV, RVs])
  · try simp at h22
    refine AWp.skip ?_
    repeat first | refine thenN ?_ | refine thenX ?_ | refine thenR ?_ | refine blockN ?_ | refine blockR ?_ | refine blockX ?_ | refine blockM rfl ?_
    -- region 3
    refine AWp.rseq E_ok [0, 1, 2, 3, 4, 5, 6, 7, 10, 11, 12, 13, 22, 32, 37] fun K hK => ?_
    simp [encRule_eq, encCal_eq, encInts_eq, encLoan_eq, h22]
    repeat refine ⟨by first | omega | assumption | decide | (simp only [maxLen]; omega) | (intros; omega), ?_⟩
    refine meet.of (policy_Due r c d u hc) ?_
    simp [encRule_eq, encCal_eq, encInts_eq, encLoan_eq, h22]
    repeat refine ⟨by first | omega | assumption | decide | (simp only [maxLen]; omega) | (intros; omega), ?_⟩
    refine hK _ ?_
    clear hK K
    refine AWp.seq ?_
    -- region 4
    refine AWp.rseq E_ok [0, 1, 2, 3, 4, 5, 6, 7, 10, 11, 12, 13, 22, 32, 37] fun K hK => ?_
    simp [encRule_eq, encCal_eq, encInts_eq, encLoan_eq, h22]
    repeat refine ⟨by first | omega | assumption | decide | (simp only [maxLen]; omega) | (intros; omega), ?_⟩
    refine hK _ ?_
    clear hK K
    refine AWp.cond rfl (fun h32 => ?_) (fun h32 => ?_)
    · try simp at h32
      -- region 5
      refine AWp.rseq E_ok [0, 1, 2, 3, 4, 5, 6, 7, 10, 11, 12, 13, 22, 32, 37] fun K hK => ?_
      simp [encRule_eq, encCal_eq, encInts_eq, encLoan_eq, h22]
      repeat refine ⟨by first | omega | assumption | decide | (simp only [maxLen]; omega) | (intros; omega), ?_⟩
      refine hK _ ?_
      clear hK K
      refine AWp.ret ?_
      repeat first | refine thenN ?_ | refine thenX ?_ | refine thenR ?_ | refine blockN ?_ | refine blockR ?_ | refine blockX ?_ | refine blockM rfl ?_
      first | (rw [ren_a h22]; simp [RetOk, RV, RVs]; done) | (rw [ren_b h22 h32]; simp [RetOk, RV, RVs]; done) | (rw [ren_c h22 h32 h37]; simp [RetOk, RV, RVs]; done) | (rw [ren_d h22 h32 h37]; simp [RetOk, RV, RVs])
    · try simp at h32
      refine AWp.skip ?_
      repeat first | refine thenN ?_ | refine thenX ?_ | refine thenR ?_ | refine blockN ?_ | refine blockR ?_ | refine blockX ?_ | refine blockM rfl ?_
      refine AWp.seq ?_
      -- region 6
      refine AWp.rseq E_ok [0, 1, 2, 3, 4, 5, 6, 7, 10, 11, 12, 13, 22, 32, 37] fun K hK => ?_
      simp [encRule_eq, encCal_eq, encInts_eq, encLoan_eq, h22]
      repeat refine ⟨by first | omega | assumption | decide | (simp only [maxLen]; omega) | (intros; omega), ?_⟩
      refine hK _ ?_
      clear hK K
      refine AWp.cond rfl (fun h37 => ?_) (fun h37 => ?_)
      · try simp at h37
        -- region 7
        refine AWp.rseq E_ok [0, 1, 2, 3, 4, 5, 6, 7, 10, 11, 12, 13, 22, 32, 37] fun K hK => ?_
        simp [encRule_eq, encCal_eq, encInts_eq, encLoan_eq, h22]
        repeat refine ⟨by first | omega | assumption | decide | (simp only [maxLen]; omega) | (intros; omega), ?_⟩
        refine hK _ ?_
        clear hK K
        refine AWp.ret ?_
        repeat first | refine thenN ?_ | refine thenX ?_ | refine thenR ?_ | refine blockN ?_ | refine blockR ?_ | refine blockX ?_ | refine blockM rfl ?_
        first | (rw [ren_a h22]; simp [RetOk, RV, RVs]; done) | (rw [ren_b h22 h32]; simp [RetOk, RV, RVs]; done) | (rw [ren_c h22 h32 h37]; simp [RetOk, RV, RVs]; done) | (rw [ren_d h22 h32 h37]; simp [RetOk, RV, RVs])
      · try simp at h37
        refine AWp.skip ?_
        repeat first | refine thenN ?_ | refine thenX ?_ | refine thenR ?_ | refine blockN ?_ | refine blockR ?_ | refine blockX ?_ | refine blockM rfl ?_
        -- region 8
        refine AWp.rseq E_ok [0, 1, 2, 3, 4, 5, 6, 7, 10, 11, 12, 13, 22, 32, 37] fun K hK => ?_
        simp [encRule_eq, encCal_eq, encInts_eq, encLoan_eq, h22]
        repeat refine ⟨by first | omega | assumption | decide | (simp only [maxLen]; omega) | (intros; omega), ?_⟩
        refine hK _ ?_
        clear hK K
        refine AWp.ret ?_
        repeat first | refine thenN ?_ | refine thenX ?_ | refine thenR ?_ | refine blockN ?_ | refine blockR ?_ | refine blockX ?_ | refine blockM rfl ?_
        first | (rw [ren_a h22]; simp [RetOk, RV, RVs]; done) | (rw [ren_b h22 h32]; simp [RetOk, RV, RVs]; done) | (rw [ren_c h22 h32 h37]; simp [RetOk, RV, RVs]; done) | (rw [ren_d h22 h32 h37]; simp [RetOk, RV, RVs])
end Go.Proofs.Ytkdcnpdjmkoicaa

set_option maxRecDepth 100000
set_option linter.unusedSimpArgs false
set_option linter.unusedVariables false
namespace Go.Proofs.Ytkdcnpdjmkoicaa
open Go Ab Lib
theorem policy_Hidden (l : List Rule) (hl : l.length ≤ 1000000) : ACalls E.P 25 [encRules l] (.d (encInts (hidR l))) := by
  refine ACalls.intro E_ok Try.func25 rfl rfl Try.ntmps25 Try.results25 (Nat.le_of_ble_eq_true rfl) fun hok base S0 w0 => ?_
  -- region 0
  refine AWp.rseq E_ok [0, 2, 3, 4, 5, 6, 7, 8, 9, 10, 15, 19, 23, 32, 36, 37, 38, 39, 44] fun K hK => ?_
  simp [encRules_eq, encInts_eq]
  repeat refine ⟨by first | omega | assumption | decide | (simp only [maxLen]; omega) | (intros; omega), ?_⟩
  refine hK _ ?_
  clear hK K
  -- region 1
  refine AWp.rseq E_ok [0, 2, 3, 4, 5, 6, 7, 8, 9, 10, 15, 19, 23, 32, 36, 37, 38, 39, 44] fun K hK => ?_
  simp [encRules_eq, encInts_eq]
  repeat refine ⟨by first | omega | assumption | decide | (simp only [maxLen]; omega) | (intros; omega), ?_⟩
  refine hK _ ?_
  clear hK K
  refine AWp.seq ?_
  -- region 2
  refine AWp.rseq E_ok [0, 2, 3, 4, 5, 6, 7, 8, 9, 10, 15, 19, 23, 32, 36, 37, 38, 39, 44] fun K hK => ?_
  simp [encRules_eq, encInts_eq]
  repeat refine ⟨by first | omega | assumption | decide | (simp only [maxLen]; omega) | (intros; omega), ?_⟩
  refine hK _ ?_
  clear hK K
  refine AWp.block ?_
  refine AWp.range (l := (ns 9)) (F := markP l) (tot := markP l (List.replicate l.length false) (ns 9)) (fun k0 y => match y with | u0 => u0.length = l.length) (fun k0 y => match y with | u0 => [(0, T.val ((encRule zr).slice (List.map encRule l))), (3, T.own true (.bool false) (u0.map D.bool)), (4, T.val (.int .i64 ((k0 : Int) + 1)))]) (List.replicate l.length false) ?_ rfl ?_ ?_
  · simp [Weak, TW, encRules_eq, encInts_eq]
  · first | (simp; done) | (simp [hi0, markP_len]; done)
  rintro k0 u0 hk0 hs0 hi0
  try simp only at hi0
  refine AWp.seq ?_
  -- region 3
  refine AWp.rseq E_ok [0, 2, 3, 4, 5, 6, 7, 8, 9, 10, 15, 19, 23, 32, 36, 37, 38, 39, 44] fun K hK => ?_
  simp [encRules_eq, encInts_eq]
  repeat refine ⟨by first | omega | assumption | decide | (simp only [maxLen]; omega) | (intros; omega), ?_⟩
  refine hK _ ?_
  clear hK K
  refine AWp.cond rfl (fun h15 => ?_) (fun h15 => ?_)
  · try simp at h15
    have hlt0 : k0 < (ns 9).length := by rw [ns_len]; omega
    obtain ⟨x0, hx0, hxx0, hd0⟩ := at_indexG (l := (ns 9)) hlt0
    rw [hd0] at hs0
    obtain rfl := ns_get hx0
    refine AWp.skip ?_
    repeat first | refine thenN ?_ | refine thenX ?_ | refine thenR ?_ | refine blockN ?_ | refine blockR ?_ | refine blockX ?_ | refine blockM rfl ?_
    refine AWp.seq ?_
    refine AWp.block ?_
    -- region 5
    refine AWp.rseq E_ok [0, 2, 3, 4, 5, 6, 7, 8, 9, 10, 15, 19, 23, 32, 36, 37, 38, 39, 44] fun K hK => ?_
    simp [encRules_eq, encInts_eq, hx0, hxx0]
    repeat refine ⟨by first | omega | assumption | decide | (simp only [maxLen]; omega) | (intros; omega), ?_⟩
    refine hK _ ?_
    clear hK K
    refine AWp.block ?_
    refine AWp.range (l := (ns 9)) (F := markI l ((k0 : Int) + 1)) (tot := markI l ((k0 : Int) + 1) u0 (ns 9)) (fun k1 y => match y with | u1 => u1.length = l.length) (fun k1 y => match y with | u1 => [(0, T.val ((encRule zr).slice (List.map encRule l))), (3, T.own true (.bool false) (u1.map D.bool)), (4, T.val (D.int IntKind.i64 (↑k0 + 1))), (5, T.val (.int .i64 ((k1 : Int) + 1)))]) (u0) ?_ rfl ?_ ?_
    · simp [Weak, TW, encRules_eq, encInts_eq]
    · exact hi0
    rintro k1 u1 hk1 hs1 hi1
    try simp only at hi1
    refine AWp.seq ?_
    -- region 6
    refine AWp.rseq E_ok [0, 2, 3, 4, 5, 6, 7, 8, 9, 10, 15, 19, 23, 32, 36, 37, 38, 39, 44] fun K hK => ?_
    simp [encRules_eq, encInts_eq, hx0, hxx0]
    repeat refine ⟨by first | omega | assumption | decide | (simp only [maxLen]; omega) | (intros; omega), ?_⟩
    refine hK _ ?_
    clear hK K
    refine AWp.cond rfl (fun h19 => ?_) (fun h19 => ?_)
    · try simp at h19
      have hlt1 : k1 < (ns 9).length := by rw [ns_len]; omega
      obtain ⟨x1, hx1, hxx1, hd1⟩ := at_indexG (l := (ns 9)) hlt1
      rw [hd1] at hs1
      obtain rfl := ns_get hx1
      refine AWp.skip ?_
      repeat first | refine thenN ?_ | refine thenX ?_ | refine thenR ?_ | refine blockN ?_ | refine blockR ?_ | refine blockX ?_ | refine blockM rfl ?_
      refine AWp.seq ?_
      refine AWp.block ?_
      -- region 8
      refine AWp.rseq E_ok [0, 2, 3, 4, 5, 6, 7, 8, 9, 10, 15, 19, 23, 32, 36, 37, 38, 39, 44] fun K hK => ?_
      simp [encRules_eq, encInts_eq, hx0, hxx0, hx1, hxx1]
      repeat refine ⟨by first | omega | assumption | decide | (simp only [maxLen]; omega) | (intros; omega), ?_⟩
      refine hK _ ?_
      clear hK K
      refine AWp.block ?_
      refine AWp.range (l := (ns 4)) (F := markB l ((k0 : Int) + 1) ((k1 : Int) + 1)) (tot := markB l ((k0 : Int) + 1) ((k1 : Int) + 1) u1 (ns 4)) (fun k2 y => match y with | u2 => u2.length = l.length) (fun k2 y => match y with | u2 => [(0, T.val ((encRule zr).slice (List.map encRule l))), (3, T.own true (.bool false) (u2.map D.bool)), (4, T.val (D.int IntKind.i64 (↑k0 + 1))), (5, T.val (D.int IntKind.i64 (↑k1 + 1))), (6, T.val (.int .i64 ((k2 : Int) + 1)))]) (u1) ?_ rfl ?_ ?_
      · simp [Weak, TW, encRules_eq, encInts_eq]
      · exact hi1
      rintro k2 u2 hk2 hs2 hi2
      try simp only at hi2
      refine AWp.seq ?_
      -- region 9
      refine AWp.rseq E_ok [0, 2, 3, 4, 5, 6, 7, 8, 9, 10, 15, 19, 23, 32, 36, 37, 38, 39, 44] fun K hK => ?_
      simp [encRules_eq, encInts_eq, hx0, hxx0, hx1, hxx1]
      repeat refine ⟨by first | omega | assumption | decide | (simp only [maxLen]; omega) | (intros; omega), ?_⟩
      refine hK _ ?_
      clear hK K
      refine AWp.cond rfl (fun h23 => ?_) (fun h23 => ?_)
      · try simp at h23
        have hlt2 : k2 < (ns 4).length := by rw [ns_len]; omega
        obtain ⟨x2, hx2, hxx2, hd2⟩ := at_indexG (l := (ns 4)) hlt2
        rw [hd2] at hs2
        obtain rfl := ns_get hx2
        have hb := bestR_rng l ⟨(k0 : Int) + 1, (k1 : Int) + 1, (k2 : Int) + 1⟩
        refine AWp.skip ?_
        repeat first | refine thenN ?_ | refine thenX ?_ | refine thenR ?_ | refine blockN ?_ | refine blockR ?_ | refine blockX ?_ | refine blockM rfl ?_
        refine AWp.seq ?_
        refine AWp.block ?_
        -- region 11
        refine AWp.rseq E_ok [0, 2, 3, 4, 5, 6, 7, 8, 9, 10, 15, 19, 23, 32, 36, 37, 38, 39, 44] fun K hK => ?_
        simp [encRules_eq, encInts_eq, hx0, hxx0, hx1, hxx1, hx2, hxx2]
        repeat refine ⟨by first | omega | assumption | decide | (simp only [maxLen]; omega) | (intros; omega), ?_⟩
        refine meet.of (policy_best l ⟨(k0 : Int) + 1, (k1 : Int) + 1, (k2 : Int) + 1⟩) ?_
        simp [encRules_eq, encInts_eq, hx0, hxx0, hx1, hxx1, hx2, hxx2]
        repeat refine ⟨by first | omega | assumption | decide | (simp only [maxLen]; omega) | (intros; omega), ?_⟩
        refine hK _ ?_
        clear hK K
        -- region 12
        refine AWp.rseq E_ok [0, 2, 3, 4, 5, 6, 7, 8, 9, 10, 15, 19, 23, 32, 36, 37, 38, 39, 44] fun K hK => ?_
        simp [encRules_eq, encInts_eq, hx0, hxx0, hx1, hxx1, hx2, hxx2]
        repeat refine ⟨by first | omega | assumption | decide | (simp only [maxLen]; omega) | (intros; omega), ?_⟩
        refine hK _ ?_
        clear hK K
        refine AWp.cond rfl (fun h32 => ?_) (fun h32 => ?_)
        · try simp at h32
          have hc : 0 ≤ bestR l ⟨(k0 : Int) + 1, (k1 : Int) + 1, (k2 : Int) + 1⟩ := h32
          -- region 13
          refine AWp.rend E_ok [0, 2, 3, 4, 5, 6, 7, 8, 9, 10, 15, 19, 23, 32, 36, 37, 38, 39, 44] fun K hK => ?_
          simp [encRules_eq, encInts_eq, hx0, hxx0, hx1, hxx1, hx2, hxx2, h32]
          repeat refine ⟨by first | omega | assumption | decide | (simp only [maxLen]; omega) | (intros; omega), ?_⟩
          refine hK _ ?_
          clear hK K
          repeat first | refine thenN ?_ | refine thenX ?_ | refine thenR ?_ | refine blockN ?_ | refine blockR ?_ | refine blockX ?_ | refine blockM rfl ?_
          -- region 10
          refine AWp.rend E_ok [0, 2, 3, 4, 5, 6, 7, 8, 9, 10, 15, 19, 23, 32, 36, 37, 38, 39, 44] fun K hK => ?_
          simp [encRules_eq, encInts_eq, hx0, hxx0, hx1, hxx1, hx2, hxx2, h32]
          repeat refine ⟨by first | omega | assumption | decide | (simp only [maxLen]; omega) | (intros; omega), ?_⟩
          refine hK _ ?_
          clear hK K
          repeat first | refine thenN ?_ | refine thenX ?_ | refine thenR ?_ | refine blockN ?_ | refine blockR ?_ | refine blockX ?_ | refine blockM rfl ?_
          have hw2 : IntKind.i64.wrap ((k2 : Int) + 1) = (k2 : Int) + 1 := by rw [wrap_i64] <;> omega
          have hww2 : IntKind.i64.wrap ((k2 : Int) + 1 + 1) = (k2 : Int) + 1 + 1 := by rw [wrap_i64] <;> omega
          rw [markB] at hs2
          refine ⟨_, hlt2, hs2, ?_, ?_⟩
          · (simp [hi2]; done)
          · simp [Weak, TW, hw2, hww2, encRules_eq, encInts_eq, markQ, hc, List.map_set]
        · try simp at h32
          have hc : ¬ 0 ≤ bestR l ⟨(k0 : Int) + 1, (k1 : Int) + 1, (k2 : Int) + 1⟩ := by omega
          refine AWp.skip ?_
          repeat first | refine thenN ?_ | refine thenX ?_ | refine thenR ?_ | refine blockN ?_ | refine blockR ?_ | refine blockX ?_ | refine blockM rfl ?_
          -- region 10
          refine AWp.rend E_ok [0, 2, 3, 4, 5, 6, 7, 8, 9, 10, 15, 19, 23, 32, 36, 37, 38, 39, 44] fun K hK => ?_
          simp [encRules_eq, encInts_eq, hx0, hxx0, hx1, hxx1, hx2, hxx2, h32]
          repeat refine ⟨by first | omega | assumption | decide | (simp only [maxLen]; omega) | (intros; omega), ?_⟩
          refine hK _ ?_
          clear hK K
          repeat first | refine thenN ?_ | refine thenX ?_ | refine thenR ?_ | refine blockN ?_ | refine blockR ?_ | refine blockX ?_ | refine blockM rfl ?_
          have hw2 : IntKind.i64.wrap ((k2 : Int) + 1) = (k2 : Int) + 1 := by rw [wrap_i64] <;> omega
          have hww2 : IntKind.i64.wrap ((k2 : Int) + 1 + 1) = (k2 : Int) + 1 + 1 := by rw [wrap_i64] <;> omega
          rw [markB] at hs2
          refine ⟨_, hlt2, hs2, ?_, ?_⟩
          · (simp [hi2]; done)
          · simp [Weak, TW, hw2, hww2, encRules_eq, encInts_eq, markQ, hc, List.map_set]
      · try simp at h23
        obtain rfl : k2 = (ns 4).length := by rw [ns_len] at hk2 ⊢; omega
        simp [markB] at hs2
        refine AWp.exit ?_
        repeat first | refine thenN ?_ | refine thenX ?_ | refine thenR ?_ | refine blockN ?_ | refine blockR ?_ | refine blockX ?_ | refine blockM rfl ?_
        -- region 7
        subst hs2
        refine AWp.rend E_ok [0, 2, 3, 4, 5, 6, 7, 8, 9, 10, 15, 19, 23, 32, 36, 37, 38, 39, 44] fun K hK => ?_
        simp [encRules_eq, encInts_eq, hx0, hxx0, hx1, hxx1]
        repeat refine ⟨by first | omega | assumption | decide | (simp only [maxLen]; omega) | (intros; omega), ?_⟩
        refine hK _ ?_
        clear hK K
        repeat first | refine thenN ?_ | refine thenX ?_ | refine thenR ?_ | refine blockN ?_ | refine blockR ?_ | refine blockX ?_ | refine blockM rfl ?_
        have hw1 : IntKind.i64.wrap ((k1 : Int) + 1) = (k1 : Int) + 1 := by rw [wrap_i64] <;> omega
        have hww1 : IntKind.i64.wrap ((k1 : Int) + 1 + 1) = (k1 : Int) + 1 + 1 := by rw [wrap_i64] <;> omega
        rw [markI] at hs1
        refine ⟨_, hlt1, hs1, ?_, ?_⟩
        · (simp [hi1]; done)
        · simp [Weak, TW, hw1, hww1, encRules_eq, encInts_eq]
    · try simp at h19
      obtain rfl : k1 = (ns 9).length := by rw [ns_len] at hk1 ⊢; omega
      simp [markI] at hs1
      refine AWp.exit ?_
      repeat first | refine thenN ?_ | refine thenX ?_ | refine thenR ?_ | refine blockN ?_ | refine blockR ?_ | refine blockX ?_ | refine blockM rfl ?_
      -- region 4
      subst hs1
      refine AWp.rend E_ok [0, 2, 3, 4, 5, 6, 7, 8, 9, 10, 15, 19, 23, 32, 36, 37, 38, 39, 44] fun K hK => ?_
      simp [encRules_eq, encInts_eq, hx0, hxx0]
      repeat refine ⟨by first | omega | assumption | decide | (simp only [maxLen]; omega) | (intros; omega), ?_⟩
      refine hK _ ?_
      clear hK K
      repeat first | refine thenN ?_ | refine thenX ?_ | refine thenR ?_ | refine blockN ?_ | refine blockR ?_ | refine blockX ?_ | refine blockM rfl ?_
      have hw0 : IntKind.i64.wrap ((k0 : Int) + 1) = (k0 : Int) + 1 := by rw [wrap_i64] <;> omega
      have hww0 : IntKind.i64.wrap ((k0 : Int) + 1 + 1) = (k0 : Int) + 1 + 1 := by rw [wrap_i64] <;> omega
      rw [markP] at hs0
      refine ⟨_, hlt0, hs0, ?_, ?_⟩
      · first | (simp; done) | (simp [hi0, markP_len]; done)
      · simp [Weak, TW, hw0, hww0, encRules_eq, encInts_eq]
  · try simp at h15
    obtain rfl : k0 = (ns 9).length := by rw [ns_len] at hk0 ⊢; omega
    simp [markP] at hs0
    refine AWp.exit ?_
    repeat first | refine thenN ?_ | refine thenX ?_ | refine thenR ?_ | refine blockN ?_ | refine blockR ?_ | refine blockX ?_ | refine blockM rfl ?_
    -- region 14
    subst hs0
    refine AWp.rseq E_ok [0, 2, 3, 4, 5, 6, 7, 8, 9, 10, 15, 19, 23, 32, 36, 37, 38, 39, 44] fun K hK => ?_
    simp [encRules_eq, encInts_eq]
    repeat refine ⟨by first | omega | assumption | decide | (simp only [maxLen]; omega) | (intros; omega), ?_⟩
    refine hK _ ?_
    clear hK K
    refine AWp.seq ?_
    -- region 15
    refine AWp.rseq E_ok [0, 2, 3, 4, 5, 6, 7, 8, 9, 10, 15, 19, 23, 32, 36, 37, 38, 39, 44] fun K hK => ?_
    simp [encRules_eq, encInts_eq]
    repeat refine ⟨by first | omega | assumption | decide | (simp only [maxLen]; omega) | (intros; omega), ?_⟩
    refine hK _ ?_
    clear hK K
    refine AWp.block ?_
    refine AWp.range (l := (markP l (List.replicate l.length false) (ns 9))) (F := outF) (tot := outF ([], 0) (markP l (List.replicate l.length false) (ns 9))) (fun k3 y => match y with | (o, m) => m = k3 ∧ o.length ≤ k3) (fun k3 y => match y with | (o, m) => [(0, T.val ((encRule zr).slice (List.map encRule l))), (3, T.own true (D.bool false) (List.map D.bool (markP l (List.replicate l.length false) (ns 9)))), (8, T.own true (.int .i64 0) (o.map (D.int .i64))), (36, T.alias (3, 0)), (37, T.val (D.int IntKind.i64 ↑(markP l (List.replicate l.length false) (ns 9)).length)), (38, T.val (.int .i64 k3))]) ([], 0) ?_ rfl ?_ ?_
    · simp [Weak, TW, encRules_eq, encInts_eq]
    · exact ⟨rfl, by simp⟩
    rintro k3 ⟨o, m⟩ hk3 hs3 hi3
    try simp only at hi3
    -- region 16
    refine AWp.rseq E_ok [0, 2, 3, 4, 5, 6, 7, 8, 9, 10, 15, 19, 23, 32, 36, 37, 38, 39, 44] fun K hK => ?_
    simp [encRules_eq, encInts_eq]
    repeat refine ⟨by first | omega | assumption | decide | (simp only [maxLen]; omega) | (intros; omega), ?_⟩
    refine hK _ ?_
    clear hK K
    refine AWp.seq ?_
    refine AWp.cond rfl (fun h39 => ?_) (fun h39 => ?_)
    · try simp at h39
      obtain ⟨x3, hx3, hxx3, hd3⟩ := at_indexG (l := (markP l (List.replicate l.length false) (ns 9))) h39
      rw [hd3] at hs3
      obtain ⟨hm, ho⟩ := hi3
      rw [hm] at hs3
      refine AWp.skip ?_
      repeat first | refine thenN ?_ | refine thenX ?_ | refine thenR ?_ | refine blockN ?_ | refine blockR ?_ | refine blockX ?_ | refine blockM rfl ?_
      refine AWp.seq ?_
      refine AWp.block ?_
      -- region 17
      refine AWp.rseq E_ok [0, 2, 3, 4, 5, 6, 7, 8, 9, 10, 15, 19, 23, 32, 36, 37, 38, 39, 44] fun K hK => ?_
      simp [encRules_eq, encInts_eq, h39, hx3, hxx3]
      repeat refine ⟨by first | omega | assumption | decide | (simp only [maxLen]; omega) | (intros; omega), ?_⟩
      refine hK _ ?_
      clear hK K
      -- region 18
      refine AWp.rseq E_ok [0, 2, 3, 4, 5, 6, 7, 8, 9, 10, 15, 19, 23, 32, 36, 37, 38, 39, 44] fun K hK => ?_
      simp [encRules_eq, encInts_eq, h39, hx3, hxx3]
      repeat refine ⟨by first | omega | assumption | decide | (simp only [maxLen]; omega) | (intros; omega), ?_⟩
      refine hK _ ?_
      clear hK K
      refine AWp.cond rfl (fun h44 => ?_) (fun h44 => ?_)
      · try simp at h44
        -- region 19
        refine AWp.rend E_ok [0, 2, 3, 4, 5, 6, 7, 8, 9, 10, 15, 19, 23, 32, 36, 37, 38, 39, 44] fun K hK => ?_
        simp [encRules_eq, encInts_eq, h39, hx3, hxx3, h44]
        repeat refine ⟨by first | omega | assumption | decide | (simp only [maxLen]; omega) | (intros; omega), ?_⟩
        refine hK _ ?_
        clear hK K
        repeat first | refine thenN ?_ | refine thenX ?_ | refine thenR ?_ | refine blockN ?_ | refine blockR ?_ | refine blockX ?_ | refine blockM rfl ?_
        -- region 20
        refine AWp.rend E_ok [0, 2, 3, 4, 5, 6, 7, 8, 9, 10, 15, 19, 23, 32, 36, 37, 38, 39, 44] fun K hK => ?_
        simp [encRules_eq, encInts_eq, h39, hx3, hxx3, h44]
        repeat refine ⟨by first | omega | assumption | decide | (simp only [maxLen]; omega) | (intros; omega), ?_⟩
        refine hK _ ?_
        clear hK K
        repeat first | refine thenN ?_ | refine thenX ?_ | refine thenR ?_ | refine blockN ?_ | refine blockR ?_ | refine blockX ?_ | refine blockM rfl ?_
        have hw3 : IntKind.i64.wrap ((k3 : Int) + 1) = (k3 : Int) + 1 := by rw [wrap_i64] <;> omega
        simp [outF, h44] at hs3
        refine ⟨_, h39, hs3, ?_, ?_⟩
        · exact ⟨rfl, by first | omega | (simp; omega)⟩
        · simp [Weak, TW, hw3, encRules_eq, encInts_eq]
      · try simp at h44
        refine AWp.skip ?_
        repeat first | refine thenN ?_ | refine thenX ?_ | refine thenR ?_ | refine blockN ?_ | refine blockR ?_ | refine blockX ?_ | refine blockM rfl ?_
        -- region 20
        refine AWp.rend E_ok [0, 2, 3, 4, 5, 6, 7, 8, 9, 10, 15, 19, 23, 32, 36, 37, 38, 39, 44] fun K hK => ?_
        simp [encRules_eq, encInts_eq, h39, hx3, hxx3, h44]
        repeat refine ⟨by first | omega | assumption | decide | (simp only [maxLen]; omega) | (intros; omega), ?_⟩
        refine hK _ ?_
        clear hK K
        repeat first | refine thenN ?_ | refine thenX ?_ | refine thenR ?_ | refine blockN ?_ | refine blockR ?_ | refine blockX ?_ | refine blockM rfl ?_
        have hw3 : IntKind.i64.wrap ((k3 : Int) + 1) = (k3 : Int) + 1 := by rw [wrap_i64] <;> omega
        simp [outF, h44] at hs3
        refine ⟨_, h39, hs3, ?_, ?_⟩
        · exact ⟨rfl, by first | omega | (simp; omega)⟩
        · simp [Weak, TW, hw3, encRules_eq, encInts_eq]
    · try simp at h39
      obtain rfl : k3 = (markP l (List.replicate l.length false) (ns 9)).length := by omega
      simp [outF] at hs3
      refine AWp.exit ?_
      repeat first | refine thenN ?_ | refine thenX ?_ | refine thenR ?_ | refine blockN ?_ | refine blockR ?_ | refine blockX ?_ | refine blockM rfl ?_
      -- region 21
      refine AWp.rseq E_ok [0, 2, 3, 4, 5, 6, 7, 8, 9, 10, 15, 19, 23, 32, 36, 37, 38, 39, 44] fun K hK => ?_
      simp [encRules_eq, encInts_eq, h39]
      repeat refine ⟨by first | omega | assumption | decide | (simp only [maxLen]; omega) | (intros; omega), ?_⟩
      refine hK _ ?_
      clear hK K
      refine AWp.ret ?_
      repeat first | refine thenN ?_ | refine thenX ?_ | refine thenR ?_ | refine blockN ?_ | refine blockR ?_ | refine blockX ?_ | refine blockM rfl ?_
      simp [RetOk, RV, hs3, hidR, encInts_eq]
end Go.Proofs.Ytkdcnpdjmkoicaa

set_option maxRecDepth 100000
set_option linter.unusedSimpArgs false
set_option linter.unusedVariables false
namespace Go.Proofs.Ytkdcnpdjmkoicaa
open Go Ab Lib
theorem ref27_Fits (r : Rule) (q : Qry) : ACalls E.P 15 [encRule r, .int .i64 q.p, .int .i64 q.i, .int .i64 q.b] (.d (.bool (fitsB r q))) := by
  refine ACalls.intro E_ok Try.func15 rfl rfl Try.ntmps15 Try.results15 (Nat.le_of_ble_eq_true rfl) fun hok base S0 w0 => ?_
  -- region 0
  refine AWp.rseq E_ok [0, 1, 2, 3, 4, 8] fun K hK => ?_
  simp [encRule_eq]
  repeat refine ⟨by first | omega | assumption | decide | (simp only [maxLen]; omega) | (intros; omega), ?_⟩
  refine hK _ ?_
  clear hK K
  -- region 1
  refine AWp.rseq E_ok [0, 1, 2, 3, 4, 8] fun K hK => ?_
  simp [encRule_eq]
  repeat refine ⟨by first | omega | assumption | decide | (simp only [maxLen]; omega) | (intros; omega), ?_⟩
  refine hK _ ?_
  clear hK K
  refine AWp.ret ?_
  repeat first | refine thenN ?_ | refine thenX ?_ | refine thenR ?_ | refine blockN ?_ | refine blockR ?_ | refine blockX ?_ | refine blockM rfl ?_
  simp [RetOk, RV, fitsB, fits1]
end Go.Proofs.Ytkdcnpdjmkoicaa

set_option maxRecDepth 100000
set_option linter.unusedSimpArgs false
set_option linter.unusedVariables false
namespace Go.Proofs.Ytkdcnpdjmkoicaa
open Go Ab Lib
theorem ref27_Weight (r : Rule) : ACalls E.P 27 [encRule r] (.d (.int .i64 (wtR r))) := by
  refine ACalls.intro E_ok Try.func27 rfl rfl Try.ntmps27 Try.results27 (Nat.le_of_ble_eq_true rfl) fun hok base S0 w0 => ?_
  -- region 0
  refine AWp.rseq E_ok [0, 1, 2, 3, 6, 11, 16] fun K hK => ?_
  simp [encRule_eq]
  repeat refine ⟨by first | omega | assumption | decide | (simp only [maxLen]; omega) | (intros; omega), ?_⟩
  refine hK _ ?_
  clear hK K
  -- region 1
  refine AWp.rseq E_ok [0, 1, 2, 3, 6, 11, 16] fun K hK => ?_
  simp [encRule_eq]
  repeat refine ⟨by first | omega | assumption | decide | (simp only [maxLen]; omega) | (intros; omega), ?_⟩
  refine hK _ ?_
  clear hK K
  refine AWp.seq ?_
  -- region 2
  refine AWp.rseq E_ok [0, 1, 2, 3, 6, 11, 16] fun K hK => ?_
  simp [encRule_eq]
  repeat refine ⟨by first | omega | assumption | decide | (simp only [maxLen]; omega) | (intros; omega), ?_⟩
  refine hK _ ?_
  clear hK K
  refine AWp.cond rfl (fun h6 => ?_) (fun h6 => ?_)
  · try simp at h6
    -- region 3
    refine AWp.rend E_ok [0, 1, 2, 3, 6, 11, 16] fun K hK => ?_
    simp [encRule_eq, h6]
    repeat refine ⟨by first | omega | assumption | decide | (simp only [maxLen]; omega) | (intros; omega), ?_⟩
    refine hK _ ?_
    clear hK K
    repeat first | refine thenN ?_ | refine thenX ?_ | refine thenR ?_ | refine blockN ?_ | refine blockR ?_ | refine blockX ?_ | refine blockM rfl ?_
    refine AWp.seq ?_
    -- region 4
    refine AWp.rseq E_ok [0, 1, 2, 3, 6, 11, 16] fun K hK => ?_
    simp [encRule_eq, h6]
    repeat refine ⟨by first | omega | assumption | decide | (simp only [maxLen]; omega) | (intros; omega), ?_⟩
    refine hK _ ?_
    clear hK K
    refine AWp.cond rfl (fun h11 => ?_) (fun h11 => ?_)
    · try simp at h11
      -- region 5
      refine AWp.rend E_ok [0, 1, 2, 3, 6, 11, 16] fun K hK => ?_
      simp [encRule_eq, h6, h11]
      repeat refine ⟨by first | omega | assumption | decide | (simp only [maxLen]; omega) | (intros; omega), ?_⟩
      refine hK _ ?_
      clear hK K
      repeat first | refine thenN ?_ | refine thenX ?_ | refine thenR ?_ | refine blockN ?_ | refine blockR ?_ | refine blockX ?_ | refine blockM rfl ?_
      refine AWp.seq ?_
      -- region 6
      refine AWp.rseq E_ok [0, 1, 2, 3, 6, 11, 16] fun K hK => ?_
      simp [encRule_eq, h6, h11]
      repeat refine ⟨by first | omega | assumption | decide | (simp only [maxLen]; omega) | (intros; omega), ?_⟩
      refine hK _ ?_
      clear hK K
      refine AWp.cond rfl (fun h16 => ?_) (fun h16 => ?_)
      · try simp at h16
        -- region 7
        refine AWp.rend E_ok [0, 1, 2, 3, 6, 11, 16] fun K hK => ?_
        simp [encRule_eq, h6, h11, h16]
        repeat refine ⟨by first | omega | assumption | decide | (simp only [maxLen]; omega) | (intros; omega), ?_⟩
        refine hK _ ?_
        clear hK K
        repeat first | refine thenN ?_ | refine thenX ?_ | refine thenR ?_ | refine blockN ?_ | refine blockR ?_ | refine blockX ?_ | refine blockM rfl ?_
        -- region 8
        refine AWp.rseq E_ok [0, 1, 2, 3, 6, 11, 16] fun K hK => ?_
        simp [encRule_eq, h6, h11, h16]
        repeat refine ⟨by first | omega | assumption | decide | (simp only [maxLen]; omega) | (intros; omega), ?_⟩
        refine hK _ ?_
        clear hK K
        refine AWp.ret ?_
        repeat first | refine thenN ?_ | refine thenX ?_ | refine thenR ?_ | refine blockN ?_ | refine blockR ?_ | refine blockX ?_ | refine blockM rfl ?_
        simp [RetOk, RV, wtR, h6, h11, h16] <;> decide
      · try simp at h16
        refine AWp.skip ?_
        repeat first | refine thenN ?_ | refine thenX ?_ | refine thenR ?_ | refine blockN ?_ | refine blockR ?_ | refine blockX ?_ | refine blockM rfl ?_
        -- region 8
        refine AWp.rseq E_ok [0, 1, 2, 3, 6, 11, 16] fun K hK => ?_
        simp [encRule_eq, h6, h11, h16]
        repeat refine ⟨by first | omega | assumption | decide | (simp only [maxLen]; omega) | (intros; omega), ?_⟩
        refine hK _ ?_
        clear hK K
        refine AWp.ret ?_
        repeat first | refine thenN ?_ | refine thenX ?_ | refine thenR ?_ | refine blockN ?_ | refine blockR ?_ | refine blockX ?_ | refine blockM rfl ?_
        simp [RetOk, RV, wtR, h6, h11, h16] <;> decide
    · try simp at h11
      refine AWp.skip ?_
      repeat first | refine thenN ?_ | refine thenX ?_ | refine thenR ?_ | refine blockN ?_ | refine blockR ?_ | refine blockX ?_ | refine blockM rfl ?_
      refine AWp.seq ?_
      -- region 6
      refine AWp.rseq E_ok [0, 1, 2, 3, 6, 11, 16] fun K hK => ?_
      simp [encRule_eq, h6, h11]
      repeat refine ⟨by first | omega | assumption | decide | (simp only [maxLen]; omega) | (intros; omega), ?_⟩
      refine hK _ ?_
      clear hK K
      refine AWp.cond rfl (fun h16 => ?_) (fun h16 => ?_)
      · try simp at h16
        -- region 7
        refine AWp.rend E_ok [0, 1, 2, 3, 6, 11, 16] fun K hK => ?_
        simp [encRule_eq, h6, h11, h16]
        repeat refine ⟨by first | omega | assumption | decide | (simp only [maxLen]; omega) | (intros; omega), ?_⟩
        refine hK _ ?_
        clear hK K
        repeat first | refine thenN ?_ | refine thenX ?_ | refine thenR ?_ | refine blockN ?_ | refine blockR ?_ | refine blockX ?_ | refine blockM rfl ?_
        -- region 8
        refine AWp.rseq E_ok [0, 1, 2, 3, 6, 11, 16] fun K hK => ?_
        simp [encRule_eq, h6, h11, h16]
        repeat refine ⟨by first | omega | assumption | decide | (simp only [maxLen]; omega) | (intros; omega), ?_⟩
        refine hK _ ?_
        clear hK K
        refine AWp.ret ?_
        repeat first | refine thenN ?_ | refine thenX ?_ | refine thenR ?_ | refine blockN ?_ | refine blockR ?_ | refine blockX ?_ | refine blockM rfl ?_
        simp [RetOk, RV, wtR, h6, h11, h16] <;> decide
      · try simp at h16
        refine AWp.skip ?_
        repeat first | refine thenN ?_ | refine thenX ?_ | refine thenR ?_ | refine blockN ?_ | refine blockR ?_ | refine blockX ?_ | refine blockM rfl ?_
        -- region 8
        refine AWp.rseq E_ok [0, 1, 2, 3, 6, 11, 16] fun K hK => ?_
        simp [encRule_eq, h6, h11, h16]
        repeat refine ⟨by first | omega | assumption | decide | (simp only [maxLen]; omega) | (intros; omega), ?_⟩
        refine hK _ ?_
        clear hK K
        refine AWp.ret ?_
        repeat first | refine thenN ?_ | refine thenX ?_ | refine thenR ?_ | refine blockN ?_ | refine blockR ?_ | refine blockX ?_ | refine blockM rfl ?_
        simp [RetOk, RV, wtR, h6, h11, h16] <;> decide
  · try simp at h6
    refine AWp.skip ?_
    repeat first | refine thenN ?_ | refine thenX ?_ | refine thenR ?_ | refine blockN ?_ | refine blockR ?_ | refine blockX ?_ | refine blockM rfl ?_
    refine AWp.seq ?_
    -- region 4
    refine AWp.rseq E_ok [0, 1, 2, 3, 6, 11, 16] fun K hK => ?_
    simp [encRule_eq, h6]
    repeat refine ⟨by first | omega | assumption | decide | (simp only [maxLen]; omega) | (intros; omega), ?_⟩
    refine hK _ ?_
    clear hK K
    refine AWp.cond rfl (fun h11 => ?_) (fun h11 => ?_)
    · try simp at h11
      -- region 5
      refine AWp.rend E_ok [0, 1, 2, 3, 6, 11, 16] fun K hK => ?_
      simp [encRule_eq, h6, h11]
      repeat refine ⟨by first | omega | assumption | decide | (simp only [maxLen]; omega) | (intros; omega), ?_⟩
      refine hK _ ?_
      clear hK K
      repeat first | refine thenN ?_ | refine thenX ?_ | refine thenR ?_ | refine blockN ?_ | refine blockR ?_ | refine blockX ?_ | refine blockM rfl ?_
      refine AWp.seq ?_
      -- region 6
      refine AWp.rseq E_ok [0, 1, 2, 3, 6, 11, 16] fun K hK => ?_
      simp [encRule_eq, h6, h11]
      repeat refine ⟨by first | omega | assumption | decide | (simp only [maxLen]; omega) | (intros; omega), ?_⟩
      refine hK _ ?_
      clear hK K
      refine AWp.cond rfl (fun h16 => ?_) (fun h16 => ?_)
      · try simp at h16
        -- region 7
        refine AWp.rend E_ok [0, 1, 2, 3, 6, 11, 16] fun K hK => ?_
        simp [encRule_eq, h6, h11, h16]
        repeat refine ⟨by first | omega | assumption | decide | (simp only [maxLen]; omega) | (intros; omega), ?_⟩
        refine hK _ ?_
        clear hK K
        repeat first | refine thenN ?_ | refine thenX ?_ | refine thenR ?_ | refine blockN ?_ | refine blockR ?_ | refine blockX ?_ | refine blockM rfl ?_
        -- region 8
        refine AWp.rseq E_ok [0, 1, 2, 3, 6, 11, 16] fun K hK => ?_
        simp [encRule_eq, h6, h11, h16]
        repeat refine ⟨by first | omega | assumption | decide | (simp only [maxLen]; omega) | (intros; omega), ?_⟩
        refine hK _ ?_
        clear hK K
        refine AWp.ret ?_
        repeat first | refine thenN ?_ | refine thenX ?_ | refine thenR ?_ | refine blockN ?_ | refine blockR ?_ | refine blockX ?_ | refine blockM rfl ?_
        simp [RetOk, RV, wtR, h6, h11, h16] <;> decide
      · try simp at h16
        refine AWp.skip ?_
        repeat first | refine thenN ?_ | refine thenX ?_ | refine thenR ?_ | refine blockN ?_ | refine blockR ?_ | refine blockX ?_ | refine blockM rfl ?_
        -- region 8
        refine AWp.rseq E_ok [0, 1, 2, 3, 6, 11, 16] fun K hK => ?_
        simp [encRule_eq, h6, h11, h16]
        repeat refine ⟨by first | omega | assumption | decide | (simp only [maxLen]; omega) | (intros; omega), ?_⟩
        refine hK _ ?_
        clear hK K
        refine AWp.ret ?_
        repeat first | refine thenN ?_ | refine thenX ?_ | refine thenR ?_ | refine blockN ?_ | refine blockR ?_ | refine blockX ?_ | refine blockM rfl ?_
        simp [RetOk, RV, wtR, h6, h11, h16] <;> decide
    · try simp at h11
      refine AWp.skip ?_
      repeat first | refine thenN ?_ | refine thenX ?_ | refine thenR ?_ | refine blockN ?_ | refine blockR ?_ | refine blockX ?_ | refine blockM rfl ?_
      refine AWp.seq ?_
      -- region 6
      refine AWp.rseq E_ok [0, 1, 2, 3, 6, 11, 16] fun K hK => ?_
      simp [encRule_eq, h6, h11]
      repeat refine ⟨by first | omega | assumption | decide | (simp only [maxLen]; omega) | (intros; omega), ?_⟩
      refine hK _ ?_
      clear hK K
      refine AWp.cond rfl (fun h16 => ?_) (fun h16 => ?_)
      · try simp at h16
        -- region 7
        refine AWp.rend E_ok [0, 1, 2, 3, 6, 11, 16] fun K hK => ?_
        simp [encRule_eq, h6, h11, h16]
        repeat refine ⟨by first | omega | assumption | decide | (simp only [maxLen]; omega) | (intros; omega), ?_⟩
        refine hK _ ?_
        clear hK K
        repeat first | refine thenN ?_ | refine thenX ?_ | refine thenR ?_ | refine blockN ?_ | refine blockR ?_ | refine blockX ?_ | refine blockM rfl ?_
        -- region 8
        refine AWp.rseq E_ok [0, 1, 2, 3, 6, 11, 16] fun K hK => ?_
        simp [encRule_eq, h6, h11, h16]
        repeat refine ⟨by first | omega | assumption | decide | (simp only [maxLen]; omega) | (intros; omega), ?_⟩
        refine hK _ ?_
        clear hK K
        refine AWp.ret ?_
        repeat first | refine thenN ?_ | refine thenX ?_ | refine thenR ?_ | refine blockN ?_ | refine blockR ?_ | refine blockX ?_ | refine blockM rfl ?_
        simp [RetOk, RV, wtR, h6, h11, h16] <;> decide
      · try simp at h16
        refine AWp.skip ?_
        repeat first | refine thenN ?_ | refine thenX ?_ | refine thenR ?_ | refine blockN ?_ | refine blockR ?_ | refine blockX ?_ | refine blockM rfl ?_
        -- region 8
        refine AWp.rseq E_ok [0, 1, 2, 3, 6, 11, 16] fun K hK => ?_
        simp [encRule_eq, h6, h11, h16]
        repeat refine ⟨by first | omega | assumption | decide | (simp only [maxLen]; omega) | (intros; omega), ?_⟩
        refine hK _ ?_
        clear hK K
        refine AWp.ret ?_
        repeat first | refine thenN ?_ | refine thenX ?_ | refine thenR ?_ | refine blockN ?_ | refine blockR ?_ | refine blockX ?_ | refine blockM rfl ?_
        simp [RetOk, RV, wtR, h6, h11, h16] <;> decide
end Go.Proofs.Ytkdcnpdjmkoicaa

set_option maxRecDepth 100000
set_option linter.unusedSimpArgs false
set_option linter.unusedVariables false
namespace Go.Proofs.Ytkdcnpdjmkoicaa
open Go Ab Lib
theorem ref27_place (l : List Rule) (q : Qry) : ACalls E.P 35 [encRules l, .int .i64 q.p, .int .i64 q.i, .int .i64 q.b] (.d (.int .i64 (bestR l q))) := by
  refine ACalls.intro E_ok Try.func35 rfl rfl Try.ntmps35 Try.results35 (Nat.le_of_ble_eq_true rfl) fun hok base S0 w0 => ?_
  have hl : l.length ≤ 9223372036854775807 := rules_len (hok (encRules l) (by simp))
  -- region 0
  refine AWp.rseq E_ok [0, 1, 2, 3, 8, 9, 10, 14, 41] fun K hK => ?_
  simp [encRules_eq]
  repeat refine ⟨by first | omega | assumption | decide | (simp only [maxLen]; omega) | (intros; omega), ?_⟩
  refine hK _ ?_
  clear hK K
  -- region 1
  refine AWp.rseq E_ok [0, 1, 2, 3, 8, 9, 10, 14, 41] fun K hK => ?_
  simp [encRules_eq]
  repeat refine ⟨by first | omega | assumption | decide | (simp only [maxLen]; omega) | (intros; omega), ?_⟩
  refine hK _ ?_
  clear hK K
  refine AWp.seq ?_
  -- region 2
  refine AWp.rseq E_ok [0, 1, 2, 3, 8, 9, 10, 14, 41] fun K hK => ?_
  simp [encRules_eq]
  repeat refine ⟨by first | omega | assumption | decide | (simp only [maxLen]; omega) | (intros; omega), ?_⟩
  refine hK _ ?_
  clear hK K
  refine AWp.block ?_
  refine AWp.range (l := l) (F := bestF q) (tot := bestF q (-1, 0, 0) l) (fun k y => match y with | (a, w, m) => m = k ∧ BestI l q k a w) (fun k y => match y with | (a, w, m) => [(0, T.val ((encRule zr).slice (List.map encRule l))), (1, T.val (D.int IntKind.i64 q.p)), (2, T.val (D.int IntKind.i64 q.i)), (3, T.val (D.int IntKind.i64 q.b)), (9, T.val (.int .i64 a)), (10, T.val (.int .i64 k))]) (-1, 0, 0) ?_ rfl ?_ ?_
  · simp [Weak, TW, encRules_eq]
  · exact ⟨rfl, BestI.zero l q⟩
  rintro k ⟨a, w, m⟩ hk hs hi
  try simp only at hi
  refine AWp.seq ?_
  -- region 3
  refine AWp.rseq E_ok [0, 1, 2, 3, 8, 9, 10, 14, 41] fun K hK => ?_
  simp [encRules_eq]
  repeat refine ⟨by first | omega | assumption | decide | (simp only [maxLen]; omega) | (intros; omega), ?_⟩
  refine hK _ ?_
  clear hK K
  refine AWp.cond rfl (fun h14 => ?_) (fun h14 => ?_)
  · try simp at h14
    obtain ⟨x, hx, hxx, hd⟩ := at_indexG (l := l) h14
    rw [hd] at hs
    obtain ⟨hm, hB⟩ := hi
    rw [hm] at hs
    have hal := hB.rng
    have haw := hB.at'
    have wr := wtR_rng x
    have wr2 := wtR_rng (l[a.toNat]?.getD zr)
    refine AWp.skip ?_
    repeat first | refine thenN ?_ | refine thenX ?_ | refine thenR ?_ | refine blockN ?_ | refine blockR ?_ | refine blockX ?_ | refine blockM rfl ?_
    refine AWp.seq ?_
    refine AWp.block ?_
    -- region 5
    refine AWp.rseqQ E_ok mixed [0, 1, 2, 3, 8, 9, 10, 14, 41] (by kernel_rfl) fun K hK => ?_
    simp [encRules_eq, h14, hx, hxx]
    repeat refine ⟨by first | omega | assumption | decide | (simp only [maxLen]; omega) | (intros; omega), ?_⟩
    refine meet.of (ref27_Fits x q) ?_
    simp [encRules_eq, h14, hx, hxx]
    repeat refine ⟨by first | omega | assumption | decide | (simp only [maxLen]; omega) | (intros; omega), ?_⟩
    refine meet.of (ref27_Weight x) ?_
    simp [encRules_eq, h14, hx, hxx]
    repeat refine ⟨by first | omega | assumption | decide | (simp only [maxLen]; omega) | (intros; omega), ?_⟩
    refine meet.of (ref27_Weight (l[a.toNat]?.getD zr)) ?_
    simp [encRules_eq, h14, hx, hxx]
    repeat refine ⟨by first | omega | assumption | decide | (simp only [maxLen]; omega) | (intros; omega), ?_⟩
    refine hK _ ?_
    clear hK K
    refine AWp.cond rfl (fun h41 => ?_) (fun h41 => ?_)
    · try simp at h41
      have hc : fitsB x q = true ∧ (a < 0 ∨ w < wtR x) := best_t haw h41
      -- region 6
      refine AWp.rend E_ok [0, 1, 2, 3, 8, 9, 10, 14, 41] fun K hK => ?_
      simp [encRules_eq, h14, hx, hxx]
      repeat refine ⟨by first | omega | assumption | decide | (simp only [maxLen]; omega) | (intros; omega), ?_⟩
      refine hK _ ?_
      clear hK K
      repeat first | refine thenN ?_ | refine thenX ?_ | refine thenR ?_ | refine blockN ?_ | refine blockR ?_ | refine blockX ?_ | refine blockM rfl ?_
      -- region 4
      refine AWp.rend E_ok [0, 1, 2, 3, 8, 9, 10, 14, 41] fun K hK => ?_
      simp [encRules_eq, h14, hx, hxx]
      repeat refine ⟨by first | omega | assumption | decide | (simp only [maxLen]; omega) | (intros; omega), ?_⟩
      refine hK _ ?_
      clear hK K
      repeat first | refine thenN ?_ | refine thenX ?_ | refine thenR ?_ | refine blockN ?_ | refine blockR ?_ | refine blockX ?_ | refine blockM rfl ?_
      have hw : IntKind.i64.wrap ((k : Int) + 1) = (k : Int) + 1 := by rw [wrap_i64] <;> omega
      rw [bestF] at hs
      first | rw [if_pos hc] at hs | rw [if_neg hc] at hs
      refine ⟨_, h14, hs, ?_, ?_⟩
      · first | exact ⟨rfl, by have := hB.step hx; rw [if_pos hc] at this; exact this⟩ | exact ⟨rfl, by have := hB.step hx; rw [if_neg hc] at this; exact this⟩
      · simp [Weak, TW, hw, encRules_eq]
    · try simp at h41
      have hc : ¬ (fitsB x q = true ∧ (a < 0 ∨ w < wtR x)) := best_n haw h41
      refine AWp.skip ?_
      repeat first | refine thenN ?_ | refine thenX ?_ | refine thenR ?_ | refine blockN ?_ | refine blockR ?_ | refine blockX ?_ | refine blockM rfl ?_
      -- region 4
      refine AWp.rend E_ok [0, 1, 2, 3, 8, 9, 10, 14, 41] fun K hK => ?_
      simp [encRules_eq, h14, hx, hxx]
      repeat refine ⟨by first | omega | assumption | decide | (simp only [maxLen]; omega) | (intros; omega), ?_⟩
      refine hK _ ?_
      clear hK K
      repeat first | refine thenN ?_ | refine thenX ?_ | refine thenR ?_ | refine blockN ?_ | refine blockR ?_ | refine blockX ?_ | refine blockM rfl ?_
      have hw : IntKind.i64.wrap ((k : Int) + 1) = (k : Int) + 1 := by rw [wrap_i64] <;> omega
      rw [bestF] at hs
      first | rw [if_pos hc] at hs | rw [if_neg hc] at hs
      refine ⟨_, h14, hs, ?_, ?_⟩
      · first | exact ⟨rfl, by have := hB.step hx; rw [if_pos hc] at this; exact this⟩ | exact ⟨rfl, by have := hB.step hx; rw [if_neg hc] at this; exact this⟩
      · simp [Weak, TW, hw, encRules_eq]
  · try simp at h14
    obtain rfl : k = l.length := by omega
    simp [bestF] at hs
    refine AWp.exit ?_
    repeat first | refine thenN ?_ | refine thenX ?_ | refine thenR ?_ | refine blockN ?_ | refine blockR ?_ | refine blockX ?_ | refine blockM rfl ?_
    -- region 7
    refine AWp.rseq E_ok [0, 1, 2, 3, 8, 9, 10, 14, 41] fun K hK => ?_
    simp [encRules_eq, h14]
    repeat refine ⟨by first | omega | assumption | decide | (simp only [maxLen]; omega) | (intros; omega), ?_⟩
    refine hK _ ?_
    clear hK K
    refine AWp.ret ?_
    repeat first | refine thenN ?_ | refine thenX ?_ | refine thenR ?_ | refine blockN ?_ | refine blockR ?_ | refine blockX ?_ | refine blockM rfl ?_
    simp [RetOk, RV, hs, bestR]
end Go.Proofs.Ytkdcnpdjmkoicaa

set_option maxRecDepth 100000
set_option linter.unusedSimpArgs false
set_option linter.unusedVariables false
namespace Go.Proofs.Ytkdcnpdjmkoicaa
open Go Ab Lib
theorem ref27_decides (l : List Rule) (j : Nat) (hl : l.length ≤ 1000000) (hj : j < l.length) : ACalls E.P 42 [encRules l, .int .i64 j] (.d (.bool (decR l j))) := by
  refine ACalls.intro E_ok Try.func42 rfl rfl Try.ntmps42 Try.results42 (Nat.le_of_ble_eq_true rfl) fun hok base S0 w0 => ?_
  obtain ⟨y, hy1, hy2, _⟩ := at_indexG (l := l) (k := j) hj
  -- region 0
  refine AWp.rseq E_ok [0, 1, 4, 5, 6, 7, 9, 13, 17, 36] fun K hK => ?_
  simp [encRules_eq, hy1, hy2, hj]
  repeat refine ⟨by first | omega | assumption | decide | (simp only [maxLen]; omega) | (intros; omega), ?_⟩
  refine hK _ ?_
  clear hK K
  refine AWp.seq ?_
  -- region 1
  refine AWp.rseq E_ok [0, 1, 4, 5, 6, 7, 9, 13, 17, 36] fun K hK => ?_
  simp [encRules_eq, hy1, hy2, hj]
  repeat refine ⟨by first | omega | assumption | decide | (simp only [maxLen]; omega) | (intros; omega), ?_⟩
  refine hK _ ?_
  clear hK K
  refine AWp.block ?_
  refine AWp.range (l := (ns 9)) (F := decP l j) (tot := decP l j () (ns 9)) (fun k0 y => match y with | v0 => True) (fun k0 y => match y with | v0 => [(0, T.val ((encRule zr).slice (List.map encRule l))), (1, T.val (D.int IntKind.i64 ↑j)), (5, T.val (.int .i64 ((k0 : Int) + 1)))]) () ?_ rfl ?_ ?_
  · simp [Weak, TW, encRules_eq]
  · first | exact trivial | (simp; omega) | simp
  rintro k0 v0 hk0 hs0 hi0
  try simp only at hi0
  refine AWp.seq ?_
  -- region 2
  refine AWp.rseq E_ok [0, 1, 4, 5, 6, 7, 9, 13, 17, 36] fun K hK => ?_
  simp [encRules_eq, hy1, hy2, hj]
  repeat refine ⟨by first | omega | assumption | decide | (simp only [maxLen]; omega) | (intros; omega), ?_⟩
  refine hK _ ?_
  clear hK K
  refine AWp.cond rfl (fun h9 => ?_) (fun h9 => ?_)
  · try simp at h9
    have hlt0 : k0 < (ns 9).length := by rw [ns_len]; omega
    obtain ⟨x0, hx0, hxx0, hd0⟩ := at_indexG (l := (ns 9)) hlt0
    rw [hd0] at hs0
    obtain rfl := ns_get hx0
    refine AWp.skip ?_
    repeat first | refine thenN ?_ | refine thenX ?_ | refine thenR ?_ | refine blockN ?_ | refine blockR ?_ | refine blockX ?_ | refine blockM rfl ?_
    refine AWp.seq ?_
    refine AWp.block ?_
    -- region 4
    refine AWp.rseq E_ok [0, 1, 4, 5, 6, 7, 9, 13, 17, 36] fun K hK => ?_
    simp [encRules_eq, hy1, hy2, hj, hx0, hxx0]
    repeat refine ⟨by first | omega | assumption | decide | (simp only [maxLen]; omega) | (intros; omega), ?_⟩
    refine hK _ ?_
    clear hK K
    refine AWp.block ?_
    refine AWp.range (l := (ns 9)) (F := decI l j ((k0 : Int) + 1)) (tot := decI l j ((k0 : Int) + 1) () (ns 9)) (fun k1 y => match y with | v1 => True) (fun k1 y => match y with | v1 => [(0, T.val ((encRule zr).slice (List.map encRule l))), (1, T.val (D.int IntKind.i64 ↑j)), (5, T.val (D.int IntKind.i64 (↑k0 + 1))), (6, T.val (.int .i64 ((k1 : Int) + 1)))]) () ?_ rfl ?_ ?_
    · simp [Weak, TW, encRules_eq]
    · first | exact trivial | (simp; omega) | simp
    rintro k1 v1 hk1 hs1 hi1
    try simp only at hi1
    refine AWp.seq ?_
    -- region 5
    refine AWp.rseq E_ok [0, 1, 4, 5, 6, 7, 9, 13, 17, 36] fun K hK => ?_
    simp [encRules_eq, hy1, hy2, hj, hx0, hxx0]
    repeat refine ⟨by first | omega | assumption | decide | (simp only [maxLen]; omega) | (intros; omega), ?_⟩
    refine hK _ ?_
    clear hK K
    refine AWp.cond rfl (fun h13 => ?_) (fun h13 => ?_)
    · try simp at h13
      have hlt1 : k1 < (ns 9).length := by rw [ns_len]; omega
      obtain ⟨x1, hx1, hxx1, hd1⟩ := at_indexG (l := (ns 9)) hlt1
      rw [hd1] at hs1
      obtain rfl := ns_get hx1
      refine AWp.skip ?_
      repeat first | refine thenN ?_ | refine thenX ?_ | refine thenR ?_ | refine blockN ?_ | refine blockR ?_ | refine blockX ?_ | refine blockM rfl ?_
      refine AWp.seq ?_
      refine AWp.block ?_
      -- region 7
      refine AWp.rseq E_ok [0, 1, 4, 5, 6, 7, 9, 13, 17, 36] fun K hK => ?_
      simp [encRules_eq, hy1, hy2, hj, hx0, hxx0, hx1, hxx1]
      repeat refine ⟨by first | omega | assumption | decide | (simp only [maxLen]; omega) | (intros; omega), ?_⟩
      refine hK _ ?_
      clear hK K
      refine AWp.block ?_
      refine AWp.range (l := (ns 4)) (F := decB l j ((k0 : Int) + 1) ((k1 : Int) + 1)) (tot := decB l j ((k0 : Int) + 1) ((k1 : Int) + 1) () (ns 4)) (fun k2 y => match y with | v2 => True) (fun k2 y => match y with | v2 => [(0, T.val ((encRule zr).slice (List.map encRule l))), (1, T.val (D.int IntKind.i64 ↑j)), (5, T.val (D.int IntKind.i64 (↑k0 + 1))), (6, T.val (D.int IntKind.i64 (↑k1 + 1))), (7, T.val (.int .i64 ((k2 : Int) + 1)))]) () ?_ rfl ?_ ?_
      · simp [Weak, TW, encRules_eq]
      · first | exact trivial | (simp; omega) | simp
      rintro k2 v2 hk2 hs2 hi2
      try simp only at hi2
      refine AWp.seq ?_
      -- region 8
      refine AWp.rseq E_ok [0, 1, 4, 5, 6, 7, 9, 13, 17, 36] fun K hK => ?_
      simp [encRules_eq, hy1, hy2, hj, hx0, hxx0, hx1, hxx1]
      repeat refine ⟨by first | omega | assumption | decide | (simp only [maxLen]; omega) | (intros; omega), ?_⟩
      refine hK _ ?_
      clear hK K
      refine AWp.cond rfl (fun h17 => ?_) (fun h17 => ?_)
      · try simp at h17
        have hlt2 : k2 < (ns 4).length := by rw [ns_len]; omega
        obtain ⟨x2, hx2, hxx2, hd2⟩ := at_indexG (l := (ns 4)) hlt2
        rw [hd2] at hs2
        obtain rfl := ns_get hx2
        refine AWp.skip ?_
        repeat first | refine thenN ?_ | refine thenX ?_ | refine thenR ?_ | refine blockN ?_ | refine blockR ?_ | refine blockX ?_ | refine blockM rfl ?_
        refine AWp.seq ?_
        refine AWp.block ?_
        -- region 10
        refine AWp.rseq E_ok [0, 1, 4, 5, 6, 7, 9, 13, 17, 36] fun K hK => ?_
        simp [encRules_eq, hy1, hy2, hj, hx0, hxx0, hx1, hxx1, hx2, hxx2]
        repeat refine ⟨by first | omega | assumption | decide | (simp only [maxLen]; omega) | (intros; omega), ?_⟩
        refine meet.of (ref27_Fits y ⟨(k0 : Int) + 1, (k1 : Int) + 1, (k2 : Int) + 1⟩) ?_
        simp [encRules_eq, hy1, hy2, hj, hx0, hxx0, hx1, hxx1, hx2, hxx2]
        repeat refine ⟨by first | omega | assumption | decide | (simp only [maxLen]; omega) | (intros; omega), ?_⟩
        refine meet.of (ref27_place l ⟨(k0 : Int) + 1, (k1 : Int) + 1, (k2 : Int) + 1⟩) ?_
        simp [encRules_eq, hy1, hy2, hj, hx0, hxx0, hx1, hxx1, hx2, hxx2]
        repeat refine ⟨by first | omega | assumption | decide | (simp only [maxLen]; omega) | (intros; omega), ?_⟩
        refine hK _ ?_
        clear hK K
        refine AWp.cond rfl (fun h36 => ?_) (fun h36 => ?_)
        · skip
          have hc : decC l j ⟨(k0 : Int) + 1, (k1 : Int) + 1, (k2 : Int) + 1⟩ = true := by rw [decC_eq hy1]; simpa using h36
          have hd2 : decB l j ((k0 : Int) + 1) ((k1 : Int) + 1) () (ns 4) = true := by rw [← hs2, decB, if_pos hc]
          have hd1 : decI l j ((k0 : Int) + 1) () (ns 9) = true := by rw [← hs1, decI, if_pos hd2]
          have hd0 : decR l j = true := by unfold decR; rw [← hs0, decP, if_pos hd1]
          -- region 11
          refine AWp.rseq E_ok [0, 1, 4, 5, 6, 7, 9, 13, 17, 36] fun K hK => ?_
          simp [encRules_eq, hy1, hy2, hj, hx0, hxx0, hx1, hxx1, hx2, hxx2]
          repeat refine ⟨by first | omega | assumption | decide | (simp only [maxLen]; omega) | (intros; omega), ?_⟩
          refine hK _ ?_
          clear hK K
          refine AWp.ret ?_
          repeat first | refine thenN ?_ | refine thenX ?_ | refine thenR ?_ | refine blockN ?_ | refine blockR ?_ | refine blockX ?_ | refine blockM rfl ?_
          simp [RetOk, RV, hd0]
        · skip
          have hc : ¬ decC l j ⟨(k0 : Int) + 1, (k1 : Int) + 1, (k2 : Int) + 1⟩ = true := by rw [decC_eq hy1]; simpa using h36
          refine AWp.skip ?_
          repeat first | refine thenN ?_ | refine thenX ?_ | refine thenR ?_ | refine blockN ?_ | refine blockR ?_ | refine blockX ?_ | refine blockM rfl ?_
          -- region 9
          refine AWp.rend E_ok [0, 1, 4, 5, 6, 7, 9, 13, 17, 36] fun K hK => ?_
          simp [encRules_eq, hy1, hy2, hj, hx0, hxx0, hx1, hxx1, hx2, hxx2]
          repeat refine ⟨by first | omega | assumption | decide | (simp only [maxLen]; omega) | (intros; omega), ?_⟩
          refine hK _ ?_
          clear hK K
          repeat first | refine thenN ?_ | refine thenX ?_ | refine thenR ?_ | refine blockN ?_ | refine blockR ?_ | refine blockX ?_ | refine blockM rfl ?_
          have hw2 : IntKind.i64.wrap ((k2 : Int) + 1) = (k2 : Int) + 1 := by rw [wrap_i64] <;> omega
          have hww2 : IntKind.i64.wrap ((k2 : Int) + 1 + 1) = (k2 : Int) + 1 + 1 := by rw [wrap_i64] <;> omega
          rw [decB, if_neg hc] at hs2
          refine ⟨_, hlt2, hs2, ?_, ?_⟩
          · first | exact trivial | (simp; omega) | simp
          · simp [Weak, TW, hw2, hww2, encRules_eq]
      · try simp at h17
        obtain rfl : k2 = (ns 4).length := by rw [ns_len] at hk2 ⊢; omega
        rw [List.drop_length, decB] at hs2
        refine AWp.exit ?_
        repeat first | refine thenN ?_ | refine thenX ?_ | refine thenR ?_ | refine blockN ?_ | refine blockR ?_ | refine blockX ?_ | refine blockM rfl ?_
        -- region 6
        have hd2 : ¬ decB l j ((k0 : Int) + 1) ((k1 : Int) + 1) () (ns 4) = true := by rw [← hs2]; simp
        refine AWp.rend E_ok [0, 1, 4, 5, 6, 7, 9, 13, 17, 36] fun K hK => ?_
        simp [encRules_eq, hy1, hy2, hj, hx0, hxx0, hx1, hxx1]
        repeat refine ⟨by first | omega | assumption | decide | (simp only [maxLen]; omega) | (intros; omega), ?_⟩
        refine hK _ ?_
        clear hK K
        repeat first | refine thenN ?_ | refine thenX ?_ | refine thenR ?_ | refine blockN ?_ | refine blockR ?_ | refine blockX ?_ | refine blockM rfl ?_
        have hw1 : IntKind.i64.wrap ((k1 : Int) + 1) = (k1 : Int) + 1 := by rw [wrap_i64] <;> omega
        have hww1 : IntKind.i64.wrap ((k1 : Int) + 1 + 1) = (k1 : Int) + 1 + 1 := by rw [wrap_i64] <;> omega
        rw [decI, if_neg hd2] at hs1
        refine ⟨_, hlt1, hs1, ?_, ?_⟩
        · first | exact trivial | (simp; omega) | simp
        · simp [Weak, TW, hw1, hww1, encRules_eq]
    · try simp at h13
      obtain rfl : k1 = (ns 9).length := by rw [ns_len] at hk1 ⊢; omega
      rw [List.drop_length, decI] at hs1
      refine AWp.exit ?_
      repeat first | refine thenN ?_ | refine thenX ?_ | refine thenR ?_ | refine blockN ?_ | refine blockR ?_ | refine blockX ?_ | refine blockM rfl ?_
      -- region 3
      have hd1 : ¬ decI l j ((k0 : Int) + 1) () (ns 9) = true := by rw [← hs1]; simp
      refine AWp.rend E_ok [0, 1, 4, 5, 6, 7, 9, 13, 17, 36] fun K hK => ?_
      simp [encRules_eq, hy1, hy2, hj, hx0, hxx0]
      repeat refine ⟨by first | omega | assumption | decide | (simp only [maxLen]; omega) | (intros; omega), ?_⟩
      refine hK _ ?_
      clear hK K
      repeat first | refine thenN ?_ | refine thenX ?_ | refine thenR ?_ | refine blockN ?_ | refine blockR ?_ | refine blockX ?_ | refine blockM rfl ?_
      have hw0 : IntKind.i64.wrap ((k0 : Int) + 1) = (k0 : Int) + 1 := by rw [wrap_i64] <;> omega
      have hww0 : IntKind.i64.wrap ((k0 : Int) + 1 + 1) = (k0 : Int) + 1 + 1 := by rw [wrap_i64] <;> omega
      rw [decP, if_neg hd1] at hs0
      refine ⟨_, hlt0, hs0, ?_, ?_⟩
      · first | exact trivial | (simp; omega) | simp
      · simp [Weak, TW, hw0, hww0, encRules_eq]
  · try simp at h9
    obtain rfl : k0 = (ns 9).length := by rw [ns_len] at hk0 ⊢; omega
    rw [List.drop_length, decP] at hs0
    refine AWp.exit ?_
    repeat first | refine thenN ?_ | refine thenX ?_ | refine thenR ?_ | refine blockN ?_ | refine blockR ?_ | refine blockX ?_ | refine blockM rfl ?_
    -- region 12
    have hd0 : decR l j = false := by unfold decR; rw [← hs0]
    refine AWp.rseq E_ok [0, 1, 4, 5, 6, 7, 9, 13, 17, 36] fun K hK => ?_
    simp [encRules_eq, hy1, hy2, hj]
    repeat refine ⟨by first | omega | assumption | decide | (simp only [maxLen]; omega) | (intros; omega), ?_⟩
    refine hK _ ?_
    clear hK K
    refine AWp.ret ?_
    repeat first | refine thenN ?_ | refine thenX ?_ | refine thenR ?_ | refine blockN ?_ | refine blockR ?_ | refine blockX ?_ | refine blockM rfl ?_
    simp [RetOk, RV, hd0]
end Go.Proofs.Ytkdcnpdjmkoicaa

set_option maxRecDepth 100000
set_option linter.unusedSimpArgs false
set_option linter.unusedVariables false
namespace Go.Proofs.Ytkdcnpdjmkoicaa
open Go Ab Lib
theorem ref27_Hidden (l : List Rule) (hl : l.length ≤ 1000000) : ACalls E.P 26 [encRules l] (.d (encInts (hidG l))) := by
  refine ACalls.intro E_ok Try.func26 rfl rfl Try.ntmps26 Try.results26 (Nat.le_of_ble_eq_true rfl) fun hok base S0 w0 => ?_
  -- region 0
  refine AWp.rseq E_ok [0, 2, 3, 4, 9, 15] fun K hK => ?_
  simp [encRules_eq, encInts_eq]
  repeat refine ⟨by first | omega | assumption | decide | (simp only [maxLen]; omega) | (intros; omega), ?_⟩
  refine hK _ ?_
  clear hK K
  -- region 1
  refine AWp.rseq E_ok [0, 2, 3, 4, 9, 15] fun K hK => ?_
  simp [encRules_eq, encInts_eq]
  repeat refine ⟨by first | omega | assumption | decide | (simp only [maxLen]; omega) | (intros; omega), ?_⟩
  refine hK _ ?_
  clear hK K
  refine AWp.seq ?_
  -- region 2
  refine AWp.rseq E_ok [0, 2, 3, 4, 9, 15] fun K hK => ?_
  simp [encRules_eq, encInts_eq]
  repeat refine ⟨by first | omega | assumption | decide | (simp only [maxLen]; omega) | (intros; omega), ?_⟩
  refine hK _ ?_
  clear hK K
  refine AWp.block ?_
  refine AWp.range (l := l) (F := outG l) (tot := outG l ([], 0) l) (fun k y => match y with | (o, m) => m = k ∧ o.length ≤ k) (fun k y => match y with | (o, m) => [(0, T.val ((encRule zr).slice (List.map encRule l))), (3, T.own true (.int .i64 0) (o.map (D.int .i64))), (4, T.val (.int .i64 k))]) ([], 0) ?_ rfl ?_ ?_
  · simp [Weak, TW, encRules_eq, encInts_eq]
  · exact ⟨rfl, by simp⟩
  rintro k ⟨o, m⟩ hk hs hi
  try simp only at hi
  refine AWp.seq ?_
  -- region 3
  refine AWp.rseq E_ok [0, 2, 3, 4, 9, 15] fun K hK => ?_
  simp [encRules_eq, encInts_eq]
  repeat refine ⟨by first | omega | assumption | decide | (simp only [maxLen]; omega) | (intros; omega), ?_⟩
  refine hK _ ?_
  clear hK K
  refine AWp.cond rfl (fun h9 => ?_) (fun h9 => ?_)
  · try simp at h9
    obtain ⟨x, hx, hxx, hd⟩ := at_indexG (l := l) h9
    rw [hd] at hs
    obtain ⟨hm, ho⟩ := hi
    rw [hm] at hs
    refine AWp.skip ?_
    repeat first | refine thenN ?_ | refine thenX ?_ | refine thenR ?_ | refine blockN ?_ | refine blockR ?_ | refine blockX ?_ | refine blockM rfl ?_
    refine AWp.seq ?_
    refine AWp.block ?_
    -- region 5
    refine AWp.rseq E_ok [0, 2, 3, 4, 9, 15] fun K hK => ?_
    simp [encRules_eq, encInts_eq, h9, hx, hxx]
    repeat refine ⟨by first | omega | assumption | decide | (simp only [maxLen]; omega) | (intros; omega), ?_⟩
    refine meet.of (ref27_decides l k hl (by omega)) ?_
    simp [encRules_eq, encInts_eq, h9, hx, hxx]
    repeat refine ⟨by first | omega | assumption | decide | (simp only [maxLen]; omega) | (intros; omega), ?_⟩
    refine hK _ ?_
    clear hK K
    refine AWp.cond rfl (fun h15 => ?_) (fun h15 => ?_)
    · try simp at h15
      -- region 6
      refine AWp.rend E_ok [0, 2, 3, 4, 9, 15] fun K hK => ?_
      simp [encRules_eq, encInts_eq, h9, hx, hxx, h15]
      repeat refine ⟨by first | omega | assumption | decide | (simp only [maxLen]; omega) | (intros; omega), ?_⟩
      refine hK _ ?_
      clear hK K
      repeat first | refine thenN ?_ | refine thenX ?_ | refine thenR ?_ | refine blockN ?_ | refine blockR ?_ | refine blockX ?_ | refine blockM rfl ?_
      -- region 4
      refine AWp.rend E_ok [0, 2, 3, 4, 9, 15] fun K hK => ?_
      simp [encRules_eq, encInts_eq, h9, hx, hxx, h15]
      repeat refine ⟨by first | omega | assumption | decide | (simp only [maxLen]; omega) | (intros; omega), ?_⟩
      refine hK _ ?_
      clear hK K
      repeat first | refine thenN ?_ | refine thenX ?_ | refine thenR ?_ | refine blockN ?_ | refine blockR ?_ | refine blockX ?_ | refine blockM rfl ?_
      have hw : IntKind.i64.wrap ((k : Int) + 1) = (k : Int) + 1 := by rw [wrap_i64] <;> omega
      simp [outG, h15] at hs
      refine ⟨_, h9, hs, ?_, ?_⟩
      · exact ⟨rfl, by first | omega | (simp; omega)⟩
      · simp [Weak, TW, hw, encRules_eq, encInts_eq]
    · try simp at h15
      refine AWp.skip ?_
      repeat first | refine thenN ?_ | refine thenX ?_ | refine thenR ?_ | refine blockN ?_ | refine blockR ?_ | refine blockX ?_ | refine blockM rfl ?_
      -- region 4
      refine AWp.rend E_ok [0, 2, 3, 4, 9, 15] fun K hK => ?_
      simp [encRules_eq, encInts_eq, h9, hx, hxx, h15]
      repeat refine ⟨by first | omega | assumption | decide | (simp only [maxLen]; omega) | (intros; omega), ?_⟩
      refine hK _ ?_
      clear hK K
      repeat first | refine thenN ?_ | refine thenX ?_ | refine thenR ?_ | refine blockN ?_ | refine blockR ?_ | refine blockX ?_ | refine blockM rfl ?_
      have hw : IntKind.i64.wrap ((k : Int) + 1) = (k : Int) + 1 := by rw [wrap_i64] <;> omega
      simp [outG, h15] at hs
      refine ⟨_, h9, hs, ?_, ?_⟩
      · exact ⟨rfl, by first | omega | (simp; omega)⟩
      · simp [Weak, TW, hw, encRules_eq, encInts_eq]
  · try simp at h9
    obtain rfl : k = l.length := by omega
    simp [outG] at hs
    refine AWp.exit ?_
    repeat first | refine thenN ?_ | refine thenX ?_ | refine thenR ?_ | refine blockN ?_ | refine blockR ?_ | refine blockX ?_ | refine blockM rfl ?_
    -- region 7
    refine AWp.rseq E_ok [0, 2, 3, 4, 9, 15] fun K hK => ?_
    simp [encRules_eq, encInts_eq, h9]
    repeat refine ⟨by first | omega | assumption | decide | (simp only [maxLen]; omega) | (intros; omega), ?_⟩
    refine hK _ ?_
    clear hK K
    refine AWp.ret ?_
    repeat first | refine thenN ?_ | refine thenX ?_ | refine thenR ?_ | refine blockN ?_ | refine blockR ?_ | refine blockX ?_ | refine blockM rfl ?_
    simp [RetOk, RV, hs, hidG, encInts_eq]
end Go.Proofs.Ytkdcnpdjmkoicaa

set_option maxRecDepth 100000
set_option linter.unusedSimpArgs false
set_option linter.unusedVariables false
namespace Go.Proofs.Ytkdcnpdjmkoicaa
open Go Ab Lib
theorem policy_Find_x : ACalls E.P 16 [encRules [ra, rb, rc], .int .i64 1, .int .i64 2, .int .i64 1] (.tup [encRule rb, .bool true]) := by
  have := policy_Find [ra, rb, rc] ⟨1, 2, 1⟩
  rwa [show findR [ra, rb, rc] ⟨1, 2, 1⟩ = rb by decide +kernel, show foundR [ra, rb, rc] ⟨1, 2, 1⟩ = true by decide +kernel] at this
theorem policy_Find_y : ACalls E.P 16 [encRules [ra, rb, rc], .int .i64 3, .int .i64 2, .int .i64 1] (.tup [encRule rc, .bool true]) := by
  have := policy_Find [ra, rb, rc] ⟨3, 2, 1⟩
  rwa [show findR [ra, rb, rc] ⟨3, 2, 1⟩ = rc by decide +kernel, show foundR [ra, rb, rc] ⟨3, 2, 1⟩ = true by decide +kernel] at this
theorem policy_Right_x : ACalls E.P 11 [encRules [ra, rb, rc]] (.d (.int .i64 0)) := by
  have := policy_Right [ra, rb, rc]
  rwa [show rulesR [ra, rb, rc] = 0 by decide +kernel] at this
theorem policy_Due_x (r : Rule) (c : Cal) (d u a b : Int) (hc : calR c = 0) (h : dueR r c d u = (a, b)) : ACalls E.P 20 [encRule r, encCal c, .int .i64 d, .int .i64 u] (.tup [.int .i64 a, .int .i64 b]) := by
  have := policy_Due r c d u hc
  rwa [h] at this
theorem policy_Renew_x : ACalls E.P 22 [encRule ra, encCal ⟨0, []⟩, encLoan ⟨0, 0, 0, 0, 0, true⟩, .int .i64 100, .int .i64 1000] (.tup [.int .i64 0, .int .i64 15]) := by
  have := policy_Renew ra ⟨0, []⟩ ⟨0, 0, 0, 0, 0, true⟩ 100 1000 (by decide +kernel)
  rwa [show renR ra ⟨0, []⟩ ⟨0, 0, 0, 0, 0, true⟩ 100 1000 = (0, 15) by decide +kernel] at this
theorem policy_Hidden_x : ACalls E.P 25 [encRules [ra, rb, rc]] (.d (encInts [])) := by
  have := policy_Hidden [ra, rb, rc] (by decide)
  rwa [show hidR [ra, rb, rc] = [] by decide +kernel] at this
theorem ref27_Hidden_h (l : List Rule) (hl : l.length ≤ 1000000) : ACalls E.P 26 [encRules l] (.d (encInts (hidR l))) := hid_eq l ▸ ref27_Hidden l hl

end Go.Proofs.Ytkdcnpdjmkoicaa
