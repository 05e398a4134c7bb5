/-
  What the functions compute that the statement reaches: contracts, and the plain laws between them. Conditions stand at each theorem.
-/
import Derived.Test.YtnmbnihbeggmgaaWalkOne
set_option linter.unusedVariables false
set_option linter.unusedSimpArgs false
set_option maxRecDepth 100000
set_option linter.unusedSimpArgs false
set_option linter.unusedVariables false
namespace Go.Proofs.Ytnmbnihbeggmgaa
open Go Ab Lib
theorem fine_Late (r : Rule) (c : Cal) (d b : Int) (hcl : c.closed.length ≤ 1000000) : ACalls E.P 11 [encRule r, encCal c, .int .i64 d, .int .i64 b] (.d (.int .i64 (lateR r c d b))) := by
  refine ACalls.intro E_ok Try.func11 rfl rfl Try.ntmps11 Try.results11 (Nat.le_of_ble_eq_true rfl) fun hok base S0 w0 => ?_
  -- region 0
  refine AWp.rseq E_ok [0, 1, 2, 3, 4, 5, 8, 9, 22, 31] fun K hK => ?_
  simp [encCal_eq, encRule_eq, encInts_eq]
  repeat refine ⟨by first | omega | assumption | (simp only [maxLen]; omega), ?_⟩
  refine hK _ ?_
  clear hK K
  refine AWp.seq ?_
  -- region 1
  refine AWp.rseq E_ok [0, 1, 2, 3, 4, 5, 8, 9, 22, 31] fun K hK => ?_
  simp [encCal_eq, encRule_eq, encInts_eq]
  refine meet.of (calendar_Right c) ?_
  simp [encCal_eq, encRule_eq, encInts_eq]
  refine meet.of (fine_isDay _) ?_
  simp [encCal_eq, encRule_eq, encInts_eq]
  refine meet.of (fine_isDay _) ?_
  simp [encCal_eq, encRule_eq, encInts_eq]
  repeat refine ⟨by first | omega | assumption | (simp only [maxLen]; omega), ?_⟩
  refine hK _ ?_
  clear hK K
  refine AWp.cond rfl (fun h22 => ?_) (fun h22 => ?_)
  · try simp at h22
    -- region 2
    refine AWp.rseq E_ok [0, 1, 2, 3, 4, 5, 8, 9, 22, 31] fun K hK => ?_
    simp [encCal_eq, encRule_eq, encInts_eq, h22]
    repeat refine ⟨by first | omega | assumption | (simp only [maxLen]; omega), ?_⟩
    refine hK _ ?_
    clear hK K
    refine AWp.ret ?_
    repeat first | refine thenN ?_ | refine thenX ?_ | refine thenR ?_ | refine blockN ?_ | refine blockR ?_ | refine blockX ?_ | refine blockM rfl ?_
    first | (rw [lateR_bad h22]; simp [RetOk, RV]; done) | (rw [lateR_gr h22 h31]; simp [RetOk, RV]; done) | (rw [lateR_ok h22 h31]; simp [RetOk, RV])
  · try simp at h22
    refine AWp.skip ?_
    repeat first | refine thenN ?_ | refine thenX ?_ | refine thenR ?_ | refine blockN ?_ | refine blockR ?_ | refine blockX ?_ | refine blockM rfl ?_
    -- region 3
    refine AWp.rseq E_ok [0, 1, 2, 3, 4, 5, 8, 9, 22, 31] fun K hK => ?_
    simp [encCal_eq, encRule_eq, encInts_eq, h22]
    refine meet.of (calendar_Count c _ _ (by omega)) ?_
    simp [encCal_eq, encRule_eq, encInts_eq, h22]
    repeat refine ⟨by first | omega | assumption | (simp only [maxLen]; omega), ?_⟩
    refine hK _ ?_
    clear hK K
    refine AWp.seq ?_
    -- region 4
    refine AWp.rseq E_ok [0, 1, 2, 3, 4, 5, 8, 9, 22, 31] fun K hK => ?_
    simp [encCal_eq, encRule_eq, encInts_eq, h22]
    repeat refine ⟨by first | omega | assumption | (simp only [maxLen]; omega), ?_⟩
    refine hK _ ?_
    clear hK K
    refine AWp.cond rfl (fun h31 => ?_) (fun h31 => ?_)
    · try simp at h31
      -- region 5
      refine AWp.rseq E_ok [0, 1, 2, 3, 4, 5, 8, 9, 22, 31] fun K hK => ?_
      simp [encCal_eq, encRule_eq, encInts_eq, h22, h31]
      repeat refine ⟨by first | omega | assumption | (simp only [maxLen]; omega), ?_⟩
      refine hK _ ?_
      clear hK K
      refine AWp.ret ?_
      repeat first | refine thenN ?_ | refine thenX ?_ | refine thenR ?_ | refine blockN ?_ | refine blockR ?_ | refine blockX ?_ | refine blockM rfl ?_
      first | (rw [lateR_bad h22]; simp [RetOk, RV]; done) | (rw [lateR_gr h22 h31]; simp [RetOk, RV]; done) | (rw [lateR_ok h22 h31]; simp [RetOk, RV])
    · try simp at h31
      refine AWp.skip ?_
      repeat first | refine thenN ?_ | refine thenX ?_ | refine thenR ?_ | refine blockN ?_ | refine blockR ?_ | refine blockX ?_ | refine blockM rfl ?_
      -- region 6
      refine AWp.rseq E_ok [0, 1, 2, 3, 4, 5, 8, 9, 22, 31] fun K hK => ?_
      simp [encCal_eq, encRule_eq, encInts_eq, h22, h31]
      repeat refine ⟨by first | omega | assumption | (simp only [maxLen]; omega), ?_⟩
      refine hK _ ?_
      clear hK K
      refine AWp.ret ?_
      repeat first | refine thenN ?_ | refine thenX ?_ | refine thenR ?_ | refine blockN ?_ | refine blockR ?_ | refine blockX ?_ | refine blockM rfl ?_
      first | (rw [lateR_bad h22]; simp [RetOk, RV]; done) | (rw [lateR_gr h22 h31]; simp [RetOk, RV]; done) | (rw [lateR_ok h22 h31]; simp [RetOk, RV])
end Go.Proofs.Ytnmbnihbeggmgaa

set_option maxRecDepth 100000
set_option linter.unusedSimpArgs false
set_option linter.unusedVariables false
namespace Go.Proofs.Ytnmbnihbeggmgaa
open Go Ab Lib
theorem fine_Pay (l : List Charge) (p a : Int) (hl : l.length ≤ 1000000) : ACalls E.P 14 [encCharges l, .int .i64 p, .int .i64 a] (payR l p a) := by
  refine ACalls.intro E_ok Try.func14 rfl rfl Try.ntmps14 Try.results14 (Nat.le_of_ble_eq_true rfl) fun hok base S0 w0 => ?_
  -- region 0
  refine AWp.rseq E_ok [0, 1, 2, 6, 7, 8, 9, 10, 12, 13, 19, 21, 22, 23, 24, 30, 50] fun K hK => ?_
  simp [encCharges_eq]
  repeat refine ⟨by first | omega | assumption | (simp only [maxLen]; omega), ?_⟩
  refine hK _ ?_
  clear hK K
  refine AWp.seq ?_
  -- region 1
  refine AWp.rseq E_ok [0, 1, 2, 6, 7, 8, 9, 10, 12, 13, 19, 21, 22, 23, 24, 30, 50] fun K hK => ?_
  simp [encCharges_eq]
  repeat refine ⟨by first | omega | assumption | (simp only [maxLen]; omega), ?_⟩
  refine hK _ ?_
  clear hK K
  refine AWp.cond rfl (fun h19 => ?_) (fun h19 => ?_)
  · try simp at h19
    -- region 2
    refine AWp.rseq E_ok [0, 1, 2, 6, 7, 8, 9, 10, 12, 13, 19, 21, 22, 23, 24, 30, 50] fun K hK => ?_
    simp [encCharges_eq, h19]
    repeat refine ⟨by first | omega | assumption | (simp only [maxLen]; omega), ?_⟩
    refine hK _ ?_
    clear hK K
    refine AWp.ret ?_
    repeat first | refine thenN ?_ | refine thenX ?_ | refine thenR ?_ | refine blockN ?_ | refine blockR ?_ | refine blockX ?_ | refine blockM rfl ?_
    first | (rw [payR_bad h19]; simp [RetOk, RV, RVs, encCharges_eq]; done) | (rw [payR_good h19]; simp [RetOk, RV, RVs, ← hs, encCharges_eq])
  · try simp at h19
    refine AWp.skip ?_
    repeat first | refine thenN ?_ | refine thenX ?_ | refine thenR ?_ | refine blockN ?_ | refine blockR ?_ | refine blockX ?_ | refine blockM rfl ?_
    -- region 3
    refine AWp.rseq E_ok [0, 1, 2, 6, 7, 8, 9, 10, 12, 13, 19, 21, 22, 23, 24, 30, 50] fun K hK => ?_
    simp [encCharges_eq, h19]
    repeat refine ⟨by first | omega | assumption | (simp only [maxLen]; omega), ?_⟩
    refine hK _ ?_
    clear hK K
    -- region 4
    refine AWp.rseq E_ok [0, 1, 2, 6, 7, 8, 9, 10, 12, 13, 19, 21, 22, 23, 24, 30, 50] fun K hK => ?_
    simp [encCharges_eq, h19]
    repeat refine ⟨by first | omega | assumption | (simp only [maxLen]; omega), ?_⟩
    refine hK _ ?_
    clear hK K
    refine AWp.seq ?_
    -- region 5
    refine AWp.rseq E_ok [0, 1, 2, 6, 7, 8, 9, 10, 12, 13, 19, 21, 22, 23, 24, 30, 50] fun K hK => ?_
    simp [encCharges_eq, h19]
    repeat refine ⟨by first | omega | assumption | (simp only [maxLen]; omega), ?_⟩
    refine hK _ ?_
    clear hK K
    refine AWp.block ?_
    refine AWp.range (l := l) (F := payF p) (tot := payF p (a, []) l) (fun k y => match y with | (r, o) => o.length ≤ k) (fun k y => match y with | (r, o) => [(0, T.val (encCharges l)), (1, T.val (.int .i64 p)), (9, T.own true (encCharge z0) (o.map encCharge)), (10, T.val (.int .i64 r)), (21, T.val (encCharges l)), (22, T.val (.int .i64 l.length)), (23, T.val (.int .i64 k))]) (a, []) ?_ rfl ?_ ?_
    · simp [Weak, TW, encCharges_eq]
    · first | exact trivial | (simp; omega) | simp
    rintro k ⟨r, o⟩ hk hs hi
    try simp only at hi
    -- region 6
    refine AWp.rseq E_ok [0, 1, 2, 6, 7, 8, 9, 10, 12, 13, 19, 21, 22, 23, 24, 30, 50] fun K hK => ?_
    simp [encCharges_eq, h19]
    repeat refine ⟨by first | omega | assumption | (simp only [maxLen]; omega), ?_⟩
    refine hK _ ?_
    clear hK K
    refine AWp.seq ?_
    refine AWp.cond rfl (fun h24 => ?_) (fun h24 => ?_)
    · try simp at h24
      obtain ⟨x, hx, hx2, hd⟩ := at_indexG (l := l) h24
      rw [hd] at hs
      refine AWp.skip ?_
      repeat first | refine thenN ?_ | refine thenX ?_ | refine thenR ?_ | refine blockN ?_ | refine blockR ?_ | refine blockX ?_ | refine blockM rfl ?_
      refine AWp.seq ?_
      refine AWp.block ?_
      -- region 7
      refine AWp.rseq E_ok [0, 1, 2, 6, 7, 8, 9, 10, 12, 13, 19, 21, 22, 23, 24, 30, 50] fun K hK => ?_
      simp [encCharges_eq, h19, h24, hx, hx2]
      repeat refine ⟨by first | omega | assumption | (simp only [maxLen]; omega), ?_⟩
      refine hK _ ?_
      clear hK K
      refine AWp.seq ?_
      -- region 8
      refine AWp.rseq E_ok [0, 1, 2, 6, 7, 8, 9, 10, 12, 13, 19, 21, 22, 23, 24, 30, 50] fun K hK => ?_
      simp [encCharges_eq, h19, h24, hx, hx2]
      repeat refine ⟨by first | omega | assumption | (simp only [maxLen]; omega), ?_⟩
      refine hK _ ?_
      clear hK K
      refine AWp.cond rfl (fun h30 => ?_) (fun h30 => ?_)
      · try simp at h30
        try rw [← Int.not_lt] at h30
        -- region 9
        refine AWp.rseq E_ok [0, 1, 2, 6, 7, 8, 9, 10, 12, 13, 19, 21, 22, 23, 24, 30, 50] fun K hK => ?_
        simp [encCharges_eq, h19, h24, hx, hx2, h30]
        repeat refine ⟨by first | omega | assumption | (simp only [maxLen]; omega), ?_⟩
        refine hK _ ?_
        clear hK K
        -- region 10
        refine AWp.rseq E_ok [0, 1, 2, 6, 7, 8, 9, 10, 12, 13, 19, 21, 22, 23, 24, 30, 50] fun K hK => ?_
        simp [encCharges_eq, h19, h24, hx, hx2, h30]
        repeat refine ⟨by first | omega | assumption | (simp only [maxLen]; omega), ?_⟩
        refine hK _ ?_
        clear hK K
        -- region 11
        refine AWp.rend E_ok [0, 1, 2, 6, 7, 8, 9, 10, 12, 13, 19, 21, 22, 23, 24, 30, 50] fun K hK => ?_
        simp [encCharges_eq, h19, h24, hx, hx2, h30]
        repeat refine ⟨by first | omega | assumption | (simp only [maxLen]; omega), ?_⟩
        refine hK _ ?_
        clear hK K
        repeat first | refine thenN ?_ | refine thenX ?_ | refine thenR ?_ | refine blockN ?_ | refine blockR ?_ | refine blockX ?_ | refine blockM rfl ?_
        -- region 12
        refine AWp.rseq E_ok [0, 1, 2, 6, 7, 8, 9, 10, 12, 13, 19, 21, 22, 23, 24, 30, 50] fun K hK => ?_
        simp [encCharges_eq, h19, h24, hx, hx2, h30]
        repeat refine ⟨by first | omega | assumption | (simp only [maxLen]; omega), ?_⟩
        refine hK _ ?_
        clear hK K
        refine AWp.cond rfl (fun h50 => ?_) (fun h50 => ?_)
        · try simp at h50
          try rw [← Int.not_lt] at h50
          -- region 13
          refine AWp.rend E_ok [0, 1, 2, 6, 7, 8, 9, 10, 12, 13, 19, 21, 22, 23, 24, 30, 50] fun K hK => ?_
          simp [encCharges_eq, h19, h24, hx, hx2, h30, h50]
          repeat refine ⟨by first | omega | assumption | (simp only [maxLen]; omega), ?_⟩
          refine hK _ ?_
          clear hK K
          repeat first | refine thenN ?_ | refine thenX ?_ | refine thenR ?_ | refine blockN ?_ | refine blockR ?_ | refine blockX ?_ | refine blockM rfl ?_
          -- region 14
          refine AWp.rend E_ok [0, 1, 2, 6, 7, 8, 9, 10, 12, 13, 19, 21, 22, 23, 24, 30, 50] fun K hK => ?_
          simp [encCharges_eq, h19, h24, hx, hx2, h30, h50]
          repeat refine ⟨by first | omega | assumption | (simp only [maxLen]; omega), ?_⟩
          refine hK _ ?_
          clear hK K
          repeat first | refine thenN ?_ | refine thenX ?_ | refine thenR ?_ | refine blockN ?_ | refine blockR ?_ | refine blockX ?_ | refine blockM rfl ?_
          have hw : IntKind.i64.wrap ((k : Int) + 1) = (k : Int) + 1 := by rw [wrap_i64] <;> omega
          simp [payF, h19, h30, h50, payStep, encCharge] at hs
          refine ⟨_, h24, hs, ?_, ?_⟩
          · first | exact trivial | (simp; omega) | simp
          · simp [Weak, TW, hw, encCharges_eq, payStep, encCharge]
        · try simp at h50
          try rw [← Int.not_lt] at h50
          refine AWp.skip ?_
          repeat first | refine thenN ?_ | refine thenX ?_ | refine thenR ?_ | refine blockN ?_ | refine blockR ?_ | refine blockX ?_ | refine blockM rfl ?_
          -- region 14
          refine AWp.rend E_ok [0, 1, 2, 6, 7, 8, 9, 10, 12, 13, 19, 21, 22, 23, 24, 30, 50] fun K hK => ?_
          simp [encCharges_eq, h19, h24, hx, hx2, h30, h50]
          repeat refine ⟨by first | omega | assumption | (simp only [maxLen]; omega), ?_⟩
          refine hK _ ?_
          clear hK K
          repeat first | refine thenN ?_ | refine thenX ?_ | refine thenR ?_ | refine blockN ?_ | refine blockR ?_ | refine blockX ?_ | refine blockM rfl ?_
          have hw : IntKind.i64.wrap ((k : Int) + 1) = (k : Int) + 1 := by rw [wrap_i64] <;> omega
          simp [payF, h19, h30, h50, payStep, encCharge] at hs
          refine ⟨_, h24, hs, ?_, ?_⟩
          · first | exact trivial | (simp; omega) | simp
          · simp [Weak, TW, hw, encCharges_eq, payStep, encCharge]
      · try simp at h30
        try rw [← Int.not_lt] at h30
        refine AWp.skip ?_
        repeat first | refine thenN ?_ | refine thenX ?_ | refine thenR ?_ | refine blockN ?_ | refine blockR ?_ | refine blockX ?_ | refine blockM rfl ?_
        -- region 12
        refine AWp.rseq E_ok [0, 1, 2, 6, 7, 8, 9, 10, 12, 13, 19, 21, 22, 23, 24, 30, 50] fun K hK => ?_
        simp [encCharges_eq, h19, h24, hx, hx2, h30]
        repeat refine ⟨by first | omega | assumption | (simp only [maxLen]; omega), ?_⟩
        refine hK _ ?_
        clear hK K
        refine AWp.cond rfl (fun h50 => ?_) (fun h50 => ?_)
        · try simp at h50
          try rw [← Int.not_lt] at h50
          -- region 13
          refine AWp.rend E_ok [0, 1, 2, 6, 7, 8, 9, 10, 12, 13, 19, 21, 22, 23, 24, 30, 50] fun K hK => ?_
          simp [encCharges_eq, h19, h24, hx, hx2, h30, h50]
          repeat refine ⟨by first | omega | assumption | (simp only [maxLen]; omega), ?_⟩
          refine hK _ ?_
          clear hK K
          repeat first | refine thenN ?_ | refine thenX ?_ | refine thenR ?_ | refine blockN ?_ | refine blockR ?_ | refine blockX ?_ | refine blockM rfl ?_
          -- region 14
          refine AWp.rend E_ok [0, 1, 2, 6, 7, 8, 9, 10, 12, 13, 19, 21, 22, 23, 24, 30, 50] fun K hK => ?_
          simp [encCharges_eq, h19, h24, hx, hx2, h30, h50]
          repeat refine ⟨by first | omega | assumption | (simp only [maxLen]; omega), ?_⟩
          refine hK _ ?_
          clear hK K
          repeat first | refine thenN ?_ | refine thenX ?_ | refine thenR ?_ | refine blockN ?_ | refine blockR ?_ | refine blockX ?_ | refine blockM rfl ?_
          have hw : IntKind.i64.wrap ((k : Int) + 1) = (k : Int) + 1 := by rw [wrap_i64] <;> omega
          simp [payF, h19, h30, h50, payStep, encCharge] at hs
          refine ⟨_, h24, hs, ?_, ?_⟩
          · first | exact trivial | (simp; omega) | simp
          · simp [Weak, TW, hw, encCharges_eq, payStep, encCharge]
        · try simp at h50
          try rw [← Int.not_lt] at h50
          refine AWp.skip ?_
          repeat first | refine thenN ?_ | refine thenX ?_ | refine thenR ?_ | refine blockN ?_ | refine blockR ?_ | refine blockX ?_ | refine blockM rfl ?_
          -- region 14
          refine AWp.rend E_ok [0, 1, 2, 6, 7, 8, 9, 10, 12, 13, 19, 21, 22, 23, 24, 30, 50] fun K hK => ?_
          simp [encCharges_eq, h19, h24, hx, hx2, h30, h50]
          repeat refine ⟨by first | omega | assumption | (simp only [maxLen]; omega), ?_⟩
          refine hK _ ?_
          clear hK K
          repeat first | refine thenN ?_ | refine thenX ?_ | refine thenR ?_ | refine blockN ?_ | refine blockR ?_ | refine blockX ?_ | refine blockM rfl ?_
          have hw : IntKind.i64.wrap ((k : Int) + 1) = (k : Int) + 1 := by rw [wrap_i64] <;> omega
          simp [payF, h19, h30, h50, payStep, encCharge] at hs
          refine ⟨_, h24, hs, ?_, ?_⟩
          · first | exact trivial | (simp; omega) | simp
          · simp [Weak, TW, hw, encCharges_eq, payStep, encCharge]
    · try simp at h24
      obtain rfl : k = l.length := by omega
      simp [payF] at hs
      refine AWp.exit ?_
      repeat first | refine thenN ?_ | refine thenX ?_ | refine thenR ?_ | refine blockN ?_ | refine blockR ?_ | refine blockX ?_ | refine blockM rfl ?_
      -- region 15
      refine AWp.rseq E_ok [0, 1, 2, 6, 7, 8, 9, 10, 12, 13, 19, 21, 22, 23, 24, 30, 50] fun K hK => ?_
      simp [encCharges_eq, h19, h24]
      repeat refine ⟨by first | omega | assumption | (simp only [maxLen]; omega), ?_⟩
      refine hK _ ?_
      clear hK K
      refine AWp.ret ?_
      repeat first | refine thenN ?_ | refine thenX ?_ | refine thenR ?_ | refine blockN ?_ | refine blockR ?_ | refine blockX ?_ | refine blockM rfl ?_
      first | (rw [payR_bad h19]; simp [RetOk, RV, RVs, encCharges_eq]; done) | (rw [payR_good h19]; simp [RetOk, RV, RVs, ← hs, encCharges_eq])
end Go.Proofs.Ytnmbnihbeggmgaa

set_option maxRecDepth 100000
set_option linter.unusedSimpArgs false
set_option linter.unusedVariables false
namespace Go.Proofs.Ytnmbnihbeggmgaa
open Go Ab Lib
theorem fine_Owed (l : List Charge) (p : Int) : ACalls E.P 16 [encCharges l, .int .i64 p] (.d (.int .i64 (owedF p 0 l))) := by
  refine ACalls.intro E_ok Try.func16 rfl rfl Try.ntmps16 Try.results16 (Nat.le_of_ble_eq_true rfl) fun hok base S0 w0 => ?_
  have hl : l.length ≤ 9223372036854775807 := by have := (Ok_slice (hok (encCharges l) (by simp))).1; simpa using this
  -- region 0
  refine AWp.rseq E_ok [0, 1, 4, 5, 7, 8, 9, 10, 11, 17] fun K hK => ?_
  simp [encCharges_eq]
  repeat refine ⟨by first | omega | assumption | (simp only [maxLen]; omega), ?_⟩
  refine hK _ ?_
  clear hK K
  -- region 1
  refine AWp.rseq E_ok [0, 1, 4, 5, 7, 8, 9, 10, 11, 17] fun K hK => ?_
  simp [encCharges_eq]
  repeat refine ⟨by first | omega | assumption | (simp only [maxLen]; omega), ?_⟩
  refine hK _ ?_
  clear hK K
  refine AWp.seq ?_
  -- region 2
  refine AWp.rseq E_ok [0, 1, 4, 5, 7, 8, 9, 10, 11, 17] fun K hK => ?_
  simp [encCharges_eq]
  repeat refine ⟨by first | omega | assumption | (simp only [maxLen]; omega), ?_⟩
  refine hK _ ?_
  clear hK K
  refine AWp.block ?_
  refine AWp.range (l := l) (F := owedF p) (tot := owedF p 0 l) (fun k y => match y with | s => True) (fun k y => match y with | s => [(0, T.val (encCharges l)), (1, T.val (.int .i64 p)), (5, T.val (.int .i64 s)), (8, T.val (encCharges l)), (9, T.val (.int .i64 l.length)), (10, T.val (.int .i64 k))]) (0) ?_ rfl ?_ ?_
  · simp [Weak, TW, encCharges_eq]
  · first | exact trivial | (simp; omega) | simp
  rintro k s hk hs hi
  try simp only at hi
  -- region 3
  refine AWp.rseq E_ok [0, 1, 4, 5, 7, 8, 9, 10, 11, 17] fun K hK => ?_
  simp [encCharges_eq]
  repeat refine ⟨by first | omega | assumption | (simp only [maxLen]; omega), ?_⟩
  refine hK _ ?_
  clear hK K
  refine AWp.seq ?_
  refine AWp.cond rfl (fun h11 => ?_) (fun h11 => ?_)
  · try simp at h11
    obtain ⟨x, hx, hx2, hd⟩ := at_indexG (l := l) h11
    rw [hd] at hs
    refine AWp.skip ?_
    repeat first | refine thenN ?_ | refine thenX ?_ | refine thenR ?_ | refine blockN ?_ | refine blockR ?_ | refine blockX ?_ | refine blockM rfl ?_
    refine AWp.seq ?_
    refine AWp.block ?_
    -- region 4
    refine AWp.rseq E_ok [0, 1, 4, 5, 7, 8, 9, 10, 11, 17] fun K hK => ?_
    simp [encCharges_eq, h11, hx, hx2]
    repeat refine ⟨by first | omega | assumption | (simp only [maxLen]; omega), ?_⟩
    refine hK _ ?_
    clear hK K
    -- region 5
    refine AWp.rseq E_ok [0, 1, 4, 5, 7, 8, 9, 10, 11, 17] fun K hK => ?_
    simp [encCharges_eq, h11, hx, hx2]
    repeat refine ⟨by first | omega | assumption | (simp only [maxLen]; omega), ?_⟩
    refine hK _ ?_
    clear hK K
    refine AWp.cond rfl (fun h17 => ?_) (fun h17 => ?_)
    · try simp at h17
      -- region 6
      refine AWp.rend E_ok [0, 1, 4, 5, 7, 8, 9, 10, 11, 17] fun K hK => ?_
      simp [encCharges_eq, h11, hx, hx2, h17]
      repeat refine ⟨by first | omega | assumption | (simp only [maxLen]; omega), ?_⟩
      refine hK _ ?_
      clear hK K
      repeat first | refine thenN ?_ | refine thenX ?_ | refine thenR ?_ | refine blockN ?_ | refine blockR ?_ | refine blockX ?_ | refine blockM rfl ?_
      -- region 7
      refine AWp.rend E_ok [0, 1, 4, 5, 7, 8, 9, 10, 11, 17] fun K hK => ?_
      simp [encCharges_eq, h11, hx, hx2, h17]
      repeat refine ⟨by first | omega | assumption | (simp only [maxLen]; omega), ?_⟩
      refine hK _ ?_
      clear hK K
      repeat first | refine thenN ?_ | refine thenX ?_ | refine thenR ?_ | refine blockN ?_ | refine blockR ?_ | refine blockX ?_ | refine blockM rfl ?_
      have hw : IntKind.i64.wrap ((k : Int) + 1) = (k : Int) + 1 := by rw [wrap_i64] <;> omega
      simp [owedF, h17] at hs
      refine ⟨_, h11, hs, ?_, ?_⟩
      · first | exact trivial | (simp; omega) | simp
      · simp [Weak, TW, hw, encCharges_eq]
    · try simp at h17
      refine AWp.skip ?_
      repeat first | refine thenN ?_ | refine thenX ?_ | refine thenR ?_ | refine blockN ?_ | refine blockR ?_ | refine blockX ?_ | refine blockM rfl ?_
      -- region 7
      refine AWp.rend E_ok [0, 1, 4, 5, 7, 8, 9, 10, 11, 17] fun K hK => ?_
      simp [encCharges_eq, h11, hx, hx2, h17]
      repeat refine ⟨by first | omega | assumption | (simp only [maxLen]; omega), ?_⟩
      refine hK _ ?_
      clear hK K
      repeat first | refine thenN ?_ | refine thenX ?_ | refine thenR ?_ | refine blockN ?_ | refine blockR ?_ | refine blockX ?_ | refine blockM rfl ?_
      have hw : IntKind.i64.wrap ((k : Int) + 1) = (k : Int) + 1 := by rw [wrap_i64] <;> omega
      simp [owedF, h17] at hs
      refine ⟨_, h11, hs, ?_, ?_⟩
      · first | exact trivial | (simp; omega) | simp
      · simp [Weak, TW, hw, encCharges_eq]
  · try simp at h11
    obtain rfl : k = l.length := by omega
    simp [owedF] at hs
    refine AWp.exit ?_
    repeat first | refine thenN ?_ | refine thenX ?_ | refine thenR ?_ | refine blockN ?_ | refine blockR ?_ | refine blockX ?_ | refine blockM rfl ?_
    -- region 8
    refine AWp.rseq E_ok [0, 1, 4, 5, 7, 8, 9, 10, 11, 17] fun K hK => ?_
    simp [encCharges_eq, h11]
    repeat refine ⟨by first | omega | assumption | (simp only [maxLen]; omega), ?_⟩
    refine hK _ ?_
    clear hK K
    refine AWp.ret ?_
    repeat first | refine thenN ?_ | refine thenX ?_ | refine thenR ?_ | refine blockN ?_ | refine blockR ?_ | refine blockX ?_ | refine blockM rfl ?_
    simp [RetOk, RV, hs]
end Go.Proofs.Ytnmbnihbeggmgaa

set_option maxRecDepth 100000
set_option linter.unusedSimpArgs false
set_option linter.unusedVariables false
namespace Go.Proofs.Ytnmbnihbeggmgaa
open Go Ab Lib
theorem fine_remove (l : List Charge) (f : Nat) (caps : List D) (p : Charge → Bool) (hp : ∀ c, ACalls E.P f (encCharge c :: caps) (.d (.bool (p c)))) (hl : l.length ≤ 1000000) : ACalls E.P 32 [encCharges l, .fn f caps] (remR l p) := by
  refine ACalls.intro E_ok Try.func32 rfl rfl Try.ntmps32 Try.results32 (Nat.le_of_ble_eq_true rfl) fun hok base S0 w0 => ?_
  -- region 0
  refine AWp.rseq E_ok [0, 1, 4, 5, 6, 8, 9, 10, 11, 12, 17] fun K hK => ?_
  simp [encCharges_eq]
  repeat refine ⟨by first | omega | assumption | (simp only [maxLen]; omega), ?_⟩
  refine hK _ ?_
  clear hK K
  refine AWp.seq ?_
  -- region 1
  refine AWp.rseq E_ok [0, 1, 4, 5, 6, 8, 9, 10, 11, 12, 17] fun K hK => ?_
  simp [encCharges_eq]
  repeat refine ⟨by first | omega | assumption | (simp only [maxLen]; omega), ?_⟩
  refine hK _ ?_
  clear hK K
  refine AWp.block ?_
  refine AWp.range (l := l) (F := remF p) (tot := remF p ([], 0, 0) l) (fun k y => match y with | (o, q, n) => o.length ≤ k) (fun k y => match y with | (o, q, n) => [(0, T.val (encCharges l)), (1, T.val (.fn f caps)), (4, T.own true (encCharge z0) (o.map encCharge)), (5, T.val (.int .i64 q)), (6, T.val (.int .i64 n)), (9, T.val (encCharges l)), (10, T.val (.int .i64 l.length)), (11, T.val (.int .i64 k))]) ([], 0, 0) ?_ rfl ?_ ?_
  · simp [Weak, TW, encCharges_eq]
  · first | exact trivial | (simp; omega) | simp
  rintro k ⟨o, q, n⟩ hk hs hi
  try simp only at hi
  -- region 2
  refine AWp.rseq E_ok [0, 1, 4, 5, 6, 8, 9, 10, 11, 12, 17] fun K hK => ?_
  simp [encCharges_eq]
  repeat refine ⟨by first | omega | assumption | (simp only [maxLen]; omega), ?_⟩
  refine hK _ ?_
  clear hK K
  refine AWp.seq ?_
  refine AWp.cond rfl (fun h12 => ?_) (fun h12 => ?_)
  · try simp at h12
    obtain ⟨x, hx, hx2, hd⟩ := at_indexG (l := l) h12
    rw [hd] at hs
    refine AWp.skip ?_
    repeat first | refine thenN ?_ | refine thenX ?_ | refine thenR ?_ | refine blockN ?_ | refine blockR ?_ | refine blockX ?_ | refine blockM rfl ?_
    refine AWp.seq ?_
    refine AWp.block ?_
    -- region 3
    refine AWp.rseq E_ok [0, 1, 4, 5, 6, 8, 9, 10, 11, 12, 17] fun K hK => ?_
    simp [encCharges_eq, h12, hx, hx2]
    repeat refine ⟨by first | omega | assumption | (simp only [maxLen]; omega), ?_⟩
    refine hK _ ?_
    clear hK K
    -- region 4
    refine AWp.rseq E_ok [0, 1, 4, 5, 6, 8, 9, 10, 11, 12, 17] fun K hK => ?_
    simp [encCharges_eq, h12, hx, hx2]
    refine meet.of (hp x) ?_
    simp [encCharges_eq, h12, hx, hx2]
    repeat refine ⟨by first | omega | assumption | (simp only [maxLen]; omega), ?_⟩
    refine hK _ ?_
    clear hK K
    refine AWp.cond rfl (fun h17 => ?_) (fun h17 => ?_)
    · try simp at h17
      -- region 5
      refine AWp.rseq E_ok [0, 1, 4, 5, 6, 8, 9, 10, 11, 12, 17] fun K hK => ?_
      simp [encCharges_eq, h12, hx, hx2, h17]
      repeat refine ⟨by first | omega | assumption | (simp only [maxLen]; omega), ?_⟩
      refine hK _ ?_
      clear hK K
      -- region 6
      refine AWp.rend E_ok [0, 1, 4, 5, 6, 8, 9, 10, 11, 12, 17] fun K hK => ?_
      simp [encCharges_eq, h12, hx, hx2, h17]
      repeat refine ⟨by first | omega | assumption | (simp only [maxLen]; omega), ?_⟩
      refine hK _ ?_
      clear hK K
      repeat first | refine thenN ?_ | refine thenX ?_ | refine thenR ?_ | refine blockN ?_ | refine blockR ?_ | refine blockX ?_ | refine blockM rfl ?_
      -- region 8
      refine AWp.rend E_ok [0, 1, 4, 5, 6, 8, 9, 10, 11, 12, 17] fun K hK => ?_
      simp [encCharges_eq, h12, hx, hx2, h17]
      repeat refine ⟨by first | omega | assumption | (simp only [maxLen]; omega), ?_⟩
      refine hK _ ?_
      clear hK K
      repeat first | refine thenN ?_ | refine thenX ?_ | refine thenR ?_ | refine blockN ?_ | refine blockR ?_ | refine blockX ?_ | refine blockM rfl ?_
      have hw : IntKind.i64.wrap ((k : Int) + 1) = (k : Int) + 1 := by rw [wrap_i64] <;> omega
      simp [remF, h17, encCharge] at hs
      refine ⟨_, h12, hs, ?_, ?_⟩
      · first | exact trivial | (simp; omega) | simp
      · simp [Weak, TW, hw, encCharges_eq, encCharge]
    · try simp at h17
      -- region 7
      refine AWp.rend E_ok [0, 1, 4, 5, 6, 8, 9, 10, 11, 12, 17] fun K hK => ?_
      simp [encCharges_eq, h12, hx, hx2, h17]
      repeat refine ⟨by first | omega | assumption | (simp only [maxLen]; omega), ?_⟩
      refine hK _ ?_
      clear hK K
      repeat first | refine thenN ?_ | refine thenX ?_ | refine thenR ?_ | refine blockN ?_ | refine blockR ?_ | refine blockX ?_ | refine blockM rfl ?_
      -- region 8
      refine AWp.rend E_ok [0, 1, 4, 5, 6, 8, 9, 10, 11, 12, 17] fun K hK => ?_
      simp [encCharges_eq, h12, hx, hx2, h17]
      repeat refine ⟨by first | omega | assumption | (simp only [maxLen]; omega), ?_⟩
      refine hK _ ?_
      clear hK K
      repeat first | refine thenN ?_ | refine thenX ?_ | refine thenR ?_ | refine blockN ?_ | refine blockR ?_ | refine blockX ?_ | refine blockM rfl ?_
      have hw : IntKind.i64.wrap ((k : Int) + 1) = (k : Int) + 1 := by rw [wrap_i64] <;> omega
      simp [remF, h17, encCharge] at hs
      refine ⟨_, h12, hs, ?_, ?_⟩
      · first | exact trivial | (simp; omega) | simp
      · simp [Weak, TW, hw, encCharges_eq, encCharge]
  · try simp at h12
    obtain rfl : k = l.length := by omega
    simp [remF] at hs
    refine AWp.exit ?_
    repeat first | refine thenN ?_ | refine thenX ?_ | refine thenR ?_ | refine blockN ?_ | refine blockR ?_ | refine blockX ?_ | refine blockM rfl ?_
    -- region 9
    refine AWp.rseq E_ok [0, 1, 4, 5, 6, 8, 9, 10, 11, 12, 17] fun K hK => ?_
    simp [encCharges_eq, h12]
    repeat refine ⟨by first | omega | assumption | (simp only [maxLen]; omega), ?_⟩
    refine hK _ ?_
    clear hK K
    refine AWp.ret ?_
    repeat first | refine thenN ?_ | refine thenX ?_ | refine thenR ?_ | refine blockN ?_ | refine blockR ?_ | refine blockX ?_ | refine blockM rfl ?_
    simp [RetOk, RV, RVs, remR, ← hs, encCharges_eq]
end Go.Proofs.Ytnmbnihbeggmgaa

set_option maxRecDepth 100000
set_option linter.unusedSimpArgs false
set_option linter.unusedVariables false
namespace Go.Proofs.Ytnmbnihbeggmgaa
open Go Ab Lib
theorem fine_Waive_1 (c : Charge) (i : Int) : ACalls E.P 33 [encCharge c, .ref [.int .i64 i]] (.d (.bool (c.id == i))) := by
  refine ACalls.intro E_ok Try.func33 rfl rfl Try.ntmps33 Try.results33 (Nat.le_of_ble_eq_true rfl) fun hok base S0 w0 => ?_
  -- region 0
  refine AWp.rseq E_ok [0, 1, 2, 3] fun K hK => ?_
  simp [encCharge_eq]
  repeat refine ⟨by first | omega | assumption | (simp only [maxLen]; omega), ?_⟩
  refine hK _ ?_
  clear hK K
  -- region 1
  refine AWp.rseq E_ok [0, 1, 2, 3] fun K hK => ?_
  simp [encCharge_eq]
  repeat refine ⟨by first | omega | assumption | (simp only [maxLen]; omega), ?_⟩
  refine hK _ ?_
  clear hK K
  refine AWp.ret ?_
  repeat first | refine thenN ?_ | refine thenX ?_ | refine thenR ?_ | refine blockN ?_ | refine blockR ?_ | refine blockX ?_ | refine blockM rfl ?_
  simp [RetOk, RV]
end Go.Proofs.Ytnmbnihbeggmgaa

set_option maxRecDepth 100000
set_option linter.unusedSimpArgs false
set_option linter.unusedVariables false
namespace Go.Proofs.Ytnmbnihbeggmgaa
open Go Ab Lib
theorem fine_Waive (l : List Charge) (i : Int) (hl : l.length ≤ 1000000) : ACalls E.P 19 [encCharges l, .int .i64 i] (waiveR l i) := by
  refine ACalls.intro E_ok Try.func19 rfl rfl Try.ntmps19 Try.results19 (Nat.le_of_ble_eq_true rfl) fun hok base S0 w0 => ?_
  -- region 0
  refine AWp.rseq E_ok [0, 1, 3, 4, 5, 6, 7, 8, 9, 18] fun K hK => ?_
  simp [encCharges_eq, remR]
  repeat refine ⟨by first | omega | assumption | (simp only [maxLen]; omega), ?_⟩
  refine hK _ ?_
  clear hK K
  -- region 1
  refine AWp.rseq E_ok [0, 1, 3, 4, 5, 6, 7, 8, 9, 18] fun K hK => ?_
  simp [encCharges_eq, remR]
  refine meet.of (fine_remove l 33 [.ref [.int .i64 i]] (fun c => c.id == i) (fun c => fine_Waive_1 c i) hl) ?_
  simp [encCharges_eq, remR]
  repeat refine ⟨by first | omega | assumption | (simp only [maxLen]; omega), ?_⟩
  refine hK _ ?_
  clear hK K
  refine AWp.seq ?_
  -- region 2
  refine AWp.rseq E_ok [0, 1, 3, 4, 5, 6, 7, 8, 9, 18] fun K hK => ?_
  simp [encCharges_eq, remR]
  repeat refine ⟨by first | omega | assumption | (simp only [maxLen]; omega), ?_⟩
  refine hK _ ?_
  clear hK K
  refine AWp.cond rfl (fun h18 => ?_) (fun h18 => ?_)
  · try simp at h18
    -- region 3
    refine AWp.rseq E_ok [0, 1, 3, 4, 5, 6, 7, 8, 9, 18] fun K hK => ?_
    simp [encCharges_eq, remR, h18]
    repeat refine ⟨by first | omega | assumption | (simp only [maxLen]; omega), ?_⟩
    refine hK _ ?_
    clear hK K
    refine AWp.ret ?_
    repeat first | refine thenN ?_ | refine thenX ?_ | refine thenR ?_ | refine blockN ?_ | refine blockR ?_ | refine blockX ?_ | refine blockM rfl ?_
    first | (rw [waiveR_none h18]; simp [RetOk, RV, RVs, encCharges_eq]; done) | (rw [waiveR_some h18]; simp [RetOk, RV, RVs, encCharges_eq])
  · try simp at h18
    refine AWp.skip ?_
    repeat first | refine thenN ?_ | refine thenX ?_ | refine thenR ?_ | refine blockN ?_ | refine blockR ?_ | refine blockX ?_ | refine blockM rfl ?_
    -- region 4
    refine AWp.rseq E_ok [0, 1, 3, 4, 5, 6, 7, 8, 9, 18] fun K hK => ?_
    simp [encCharges_eq, remR, h18]
    repeat refine ⟨by first | omega | assumption | (simp only [maxLen]; omega), ?_⟩
    refine hK _ ?_
    clear hK K
    refine AWp.ret ?_
    repeat first | refine thenN ?_ | refine thenX ?_ | refine thenR ?_ | refine blockN ?_ | refine blockR ?_ | refine blockX ?_ | refine blockM rfl ?_
    first | (rw [waiveR_none h18]; simp [RetOk, RV, RVs, encCharges_eq]; done) | (rw [waiveR_some h18]; simp [RetOk, RV, RVs, encCharges_eq])
end Go.Proofs.Ytnmbnihbeggmgaa

set_option maxRecDepth 100000
set_option linter.unusedSimpArgs false
set_option linter.unusedVariables false
namespace Go.Proofs.Ytnmbnihbeggmgaa
open Go Ab Lib
theorem fine_Late_xa : ACalls E.P 11 [encRule r0, encCal c0, .int .i64 10, .int .i64 11] (.d (.int .i64 0)) := by
  have := fine_Late r0 c0 10 11 (by decide)
  rwa [show lateR r0 c0 10 11 = 0 by decide +kernel] at this
theorem fine_Late_xb : ACalls E.P 11 [encRule r0, encCal c0, .int .i64 10, .int .i64 12] (.d (.int .i64 40)) := by
  have := fine_Late r0 c0 10 12 (by decide)
  rwa [show lateR r0 c0 10 12 = 40 by decide +kernel] at this
theorem fine_Late_xc : ACalls E.P 11 [encRule r0, encCal c0, .int .i64 10, .int .i64 20] (.d (.int .i64 100)) := by
  have := fine_Late r0 c0 10 20 (by decide)
  rwa [show lateR r0 c0 10 20 = 100 by decide +kernel] at this
theorem fine_Pay_xa : ACalls E.P 14 [encCharges l0, .int .i64 5, .int .i64 220] (.tup [encCharges [⟨2, 5, 4, 9, 3, 50, 20⟩], .int .i64 0, .int .i64 0]) := by
  have := fine_Pay l0 5 220 (by decide)
  rwa [show payR l0 5 220 = .tup [encCharges [⟨2, 5, 4, 9, 3, 50, 20⟩], .int .i64 0, .int .i64 0] by kernel_rfl] at this
theorem fine_Pay_xb : ACalls E.P 14 [encCharges l0, .int .i64 5, .int .i64 260] (.tup [encCharges [], .int .i64 10, .int .i64 0]) := by
  have := fine_Pay l0 5 260 (by decide)
  rwa [show payR l0 5 260 = .tup [encCharges [], .int .i64 10, .int .i64 0] by kernel_rfl] at this
theorem fine_Owed_x : ACalls E.P 16 [encCharges l0, .int .i64 5] (.d (.int .i64 250)) := by
  have := fine_Owed l0 5
  rwa [show owedF 5 0 l0 = 250 by decide +kernel] at this
theorem fine_Waive_x : ACalls E.P 19 [encCharges l0, .int .i64 1] (.tup [encCharges [⟨2, 5, 4, 9, 3, 50, 0⟩], .int .i64 100, .int .i64 0]) := by
  have := fine_Waive l0 1 (by decide)
  rwa [show waiveR l0 1 = .tup [encCharges [⟨2, 5, 4, 9, 3, 50, 0⟩], .int .i64 100, .int .i64 0] by kernel_rfl] at this

end Go.Proofs.Ytnmbnihbeggmgaa

set_option maxRecDepth 100000
set_option linter.unusedSimpArgs false
set_option linter.unusedVariables false
namespace Go.Proofs.Ytnmbnihbeggmgaa
open Go Ab Lib
theorem law29_alive  : ACalls E.P 9 [] (.d (.bool true)) := by
  refine ACalls.intro E_ok Try.func9 rfl rfl Try.ntmps9 Try.results9 (Nat.le_of_ble_eq_true rfl) fun hok base S0 w0 => ?_
  -- region 0
  refine AWp.rseq E_ok [0, 1, 2, 3, 4, 5, 6, 7, 8, 9, 11, 12, 30, 69] fun K hK => ?_
  simp [encCharges_eq, encCharge_eq]
  repeat refine ⟨by first | omega | assumption | (simp only [maxLen]; omega), ?_⟩
  refine hK _ ?_
  clear hK K
  -- region 1
  refine AWp.rseq E_ok [0, 1, 2, 3, 4, 5, 6, 7, 8, 9, 11, 12, 30, 69] fun K hK => ?_
  simp [encCharges_eq, encCharge_eq]
  repeat refine ⟨by first | omega | assumption | (simp only [maxLen]; omega), ?_⟩
  refine hK _ ?_
  clear hK K
  -- region 2
  refine AWp.rseq E_ok [0, 1, 2, 3, 4, 5, 6, 7, 8, 9, 11, 12, 30, 69] fun K hK => ?_
  simp [encCharges_eq, encCharge_eq]
  repeat refine ⟨by first | omega | assumption | (simp only [maxLen]; omega), ?_⟩
  refine hK _ ?_
  clear hK K
  refine AWp.seq ?_
  -- region 3
  refine AWp.rseq E_ok [0, 1, 2, 3, 4, 5, 6, 7, 8, 9, 11, 12, 30, 69] fun K hK => ?_
  simp [encCharges_eq, encCharge_eq]
  refine meet.of (fine_Late_xa) ?_
  simp [encCharges_eq, encCharge_eq]
  refine meet.of (fine_Late_xb) ?_
  simp [encCharges_eq, encCharge_eq]
  refine meet.of (fine_Late_xc) ?_
  simp [encCharges_eq, encCharge_eq]
  repeat refine ⟨by first | omega | assumption | (simp only [maxLen]; omega), ?_⟩
  refine hK _ ?_
  clear hK K
  refine AWp.cond rfl (fun h30 => ?_) (fun h30 => ?_)
  · exact absurd h30 (by simp)
  · try simp at h30
    refine AWp.skip ?_
    repeat first | refine thenN ?_ | refine thenX ?_ | refine thenR ?_ | refine blockN ?_ | refine blockR ?_ | refine blockX ?_ | refine blockM rfl ?_
    -- region 5
    refine AWp.rseq E_ok [0, 1, 2, 3, 4, 5, 6, 7, 8, 9, 11, 12, 30, 69] fun K hK => ?_
    simp [encCharges_eq, encCharge_eq]
    repeat refine ⟨by first | omega | assumption | (simp only [maxLen]; omega), ?_⟩
    refine hK _ ?_
    clear hK K
    -- region 6
    refine AWp.rseq E_ok [0, 1, 2, 3, 4, 5, 6, 7, 8, 9, 11, 12, 30, 69] fun K hK => ?_
    simp [encCharges_eq, encCharge_eq]
    refine meet.of (fine_Pay_xa) ?_
    simp [encCharges_eq, encCharge_eq]
    repeat refine ⟨by first | omega | assumption | (simp only [maxLen]; omega), ?_⟩
    refine hK _ ?_
    clear hK K
    refine AWp.seq ?_
    -- region 7
    refine AWp.rseq E_ok [0, 1, 2, 3, 4, 5, 6, 7, 8, 9, 11, 12, 30, 69] fun K hK => ?_
    simp [encCharges_eq, encCharge_eq]
    refine meet.of (fine_Owed_x) ?_
    simp [encCharges_eq, encCharge_eq]
    repeat refine ⟨by first | omega | assumption | (simp only [maxLen]; omega), ?_⟩
    refine hK _ ?_
    clear hK K
    refine AWp.cond rfl (fun h69 => ?_) (fun h69 => ?_)
    · exact absurd h69 (by simp)
    · try simp at h69
      refine AWp.skip ?_
      repeat first | refine thenN ?_ | refine thenX ?_ | refine thenR ?_ | refine blockN ?_ | refine blockR ?_ | refine blockX ?_ | refine blockM rfl ?_
      -- region 9
      refine AWp.rseq E_ok [0, 1, 2, 3, 4, 5, 6, 7, 8, 9, 11, 12, 30, 69] fun K hK => ?_
      simp [encCharges_eq, encCharge_eq]
      refine meet.of (fine_Pay_xb) ?_
      simp [encCharges_eq, encCharge_eq]
      repeat refine ⟨by first | omega | assumption | (simp only [maxLen]; omega), ?_⟩
      refine hK _ ?_
      clear hK K
      -- region 10
      refine AWp.rseq E_ok [0, 1, 2, 3, 4, 5, 6, 7, 8, 9, 11, 12, 30, 69] fun K hK => ?_
      simp [encCharges_eq, encCharge_eq]
      refine meet.of (fine_Waive_x) ?_
      simp [encCharges_eq, encCharge_eq]
      repeat refine ⟨by first | omega | assumption | (simp only [maxLen]; omega), ?_⟩
      refine hK _ ?_
      clear hK K
      -- region 11
      refine AWp.rseq E_ok [0, 1, 2, 3, 4, 5, 6, 7, 8, 9, 11, 12, 30, 69] fun K hK => ?_
      simp [encCharges_eq, encCharge_eq]
      repeat refine ⟨by first | omega | assumption | (simp only [maxLen]; omega), ?_⟩
      refine hK _ ?_
      clear hK K
      refine AWp.ret ?_
      repeat first | refine thenN ?_ | refine thenX ?_ | refine thenR ?_ | refine blockN ?_ | refine blockR ?_ | refine blockX ?_ | refine blockM rfl ?_
      simp [RetOk, RV, RVs]
end Go.Proofs.Ytnmbnihbeggmgaa

set_option maxRecDepth 100000
set_option linter.unusedSimpArgs false
set_option linter.unusedVariables false
namespace Go.Proofs.Ytnmbnihbeggmgaa
open Go Ab Lib
theorem fine_check_1 (n : Int) : ACalls E.P 43 [.int .i64 n] (.d (.bool (isID n))) := by
  refine ACalls.intro E_ok Try.func43 rfl rfl Try.ntmps43 Try.results43 (Nat.le_of_ble_eq_true rfl) fun hok base S0 w0 => ?_
  -- region 0
  refine AWp.rseq E_ok [0, 2] fun K hK => ?_
  simp
  repeat refine ⟨by first | omega | assumption | (simp only [maxLen]; omega), ?_⟩
  refine hK _ ?_
  clear hK K
  -- region 1
  refine AWp.rseq E_ok [0, 2] fun K hK => ?_
  simp
  repeat refine ⟨by first | omega | assumption | (simp only [maxLen]; omega), ?_⟩
  refine hK _ ?_
  clear hK K
  refine AWp.ret ?_
  repeat first | refine thenN ?_ | refine thenX ?_ | refine thenR ?_ | refine blockN ?_ | refine blockR ?_ | refine blockX ?_ | refine blockM rfl ?_
  simp [RetOk, RV, isID]
end Go.Proofs.Ytnmbnihbeggmgaa

set_option maxRecDepth 100000
set_option linter.unusedSimpArgs false
set_option linter.unusedVariables false
namespace Go.Proofs.Ytnmbnihbeggmgaa
open Go Ab Lib
theorem fine_check (c : Charge) : ACalls E.P 35 [encCharge c] (.d (.int .i64 (chkC c))) := by
  refine ACalls.intro E_ok Try.func35 rfl rfl Try.ntmps35 Try.results35 (Nat.le_of_ble_eq_true rfl) fun hok base S0 w0 => ?_
  -- region 0
  refine AWp.rseq E_ok [0, 1, 2, 3, 4, 33, 42] fun K hK => ?_
  simp [encCharge_eq]
  repeat refine ⟨by first | omega | assumption | (simp only [maxLen]; omega), ?_⟩
  refine hK _ ?_
  clear hK K
  -- region 1
  refine AWp.rseq E_ok [0, 1, 2, 3, 4, 33, 42] fun K hK => ?_
  simp [encCharge_eq]
  repeat refine ⟨by first | omega | assumption | (simp only [maxLen]; omega), ?_⟩
  refine hK _ ?_
  clear hK K
  refine AWp.seq ?_
  refine AWp.block ?_
  -- region 2
  refine AWp.rseq E_ok [0, 1, 2, 3, 4, 33, 42] fun K hK => ?_
  simp [encCharge_eq]
  refine meet.of (fine_check_1 _) ?_
  simp [encCharge_eq]
  refine meet.of (fine_check_1 _) ?_
  simp [encCharge_eq]
  refine meet.of (fine_isDay _) ?_
  simp [encCharge_eq]
  repeat refine ⟨by first | omega | assumption | (simp only [maxLen]; omega), ?_⟩
  refine hK _ ?_
  clear hK K
  refine AWp.cond rfl (fun h4 => ?_) (fun h4 => ?_)
  · try simp at h4
    have hc := chk2c h4
    -- region 3
    refine AWp.rseq E_ok [0, 1, 2, 3, 4, 33, 42] fun K hK => ?_
    simp [encCharge_eq, h4]
    repeat refine ⟨by first | omega | assumption | (simp only [maxLen]; omega), ?_⟩
    refine hK _ ?_
    clear hK K
    refine AWp.ret ?_
    repeat first | refine thenN ?_ | refine thenX ?_ | refine thenR ?_ | refine blockN ?_ | refine blockR ?_ | refine blockX ?_ | refine blockM rfl ?_
    simp [RetOk, RV, hc]
  · try simp at h4
    -- region 4
    refine AWp.rseq E_ok [0, 1, 2, 3, 4, 33, 42] fun K hK => ?_
    simp [encCharge_eq, h4]
    repeat refine ⟨by first | omega | assumption | (simp only [maxLen]; omega), ?_⟩
    refine hK _ ?_
    clear hK K
    refine AWp.cond rfl (fun h33 => ?_) (fun h33 => ?_)
    · try simp at h33
      have hc := chk1c h4 h33
      -- region 5
      refine AWp.rseq E_ok [0, 1, 2, 3, 4, 33, 42] fun K hK => ?_
      simp [encCharge_eq, h4, h33]
      repeat refine ⟨by first | omega | assumption | (simp only [maxLen]; omega), ?_⟩
      refine hK _ ?_
      clear hK K
      refine AWp.ret ?_
      repeat first | refine thenN ?_ | refine thenX ?_ | refine thenR ?_ | refine blockN ?_ | refine blockR ?_ | refine blockX ?_ | refine blockM rfl ?_
      simp [RetOk, RV, hc]
    · try simp at h33
      -- region 6
      refine AWp.rseq E_ok [0, 1, 2, 3, 4, 33, 42] fun K hK => ?_
      simp [encCharge_eq, h4, h33]
      repeat refine ⟨by first | omega | assumption | (simp only [maxLen]; omega), ?_⟩
      refine hK _ ?_
      clear hK K
      refine AWp.cond rfl (fun h42 => ?_) (fun h42 => ?_)
      · try simp at h42
        have hc := chk2d h4 h33 h42
        -- region 7
        refine AWp.rseq E_ok [0, 1, 2, 3, 4, 33, 42] fun K hK => ?_
        simp [encCharge_eq, h4, h33, h42]
        repeat refine ⟨by first | omega | assumption | (simp only [maxLen]; omega), ?_⟩
        refine hK _ ?_
        clear hK K
        refine AWp.ret ?_
        repeat first | refine thenN ?_ | refine thenX ?_ | refine thenR ?_ | refine blockN ?_ | refine blockR ?_ | refine blockX ?_ | refine blockM rfl ?_
        simp [RetOk, RV, hc]
      · try simp at h42
        have hc := chk0c h4 h33 h42
        refine AWp.skip ?_
        repeat first | refine thenN ?_ | refine thenX ?_ | refine thenR ?_ | refine blockN ?_ | refine blockR ?_ | refine blockX ?_ | refine blockM rfl ?_
        -- region 8
        refine AWp.rseq E_ok [0, 1, 2, 3, 4, 33, 42] fun K hK => ?_
        simp [encCharge_eq, h4, h33, h42]
        repeat refine ⟨by first | omega | assumption | (simp only [maxLen]; omega), ?_⟩
        refine hK _ ?_
        clear hK K
        refine AWp.ret ?_
        repeat first | refine thenN ?_ | refine thenX ?_ | refine thenR ?_ | refine blockN ?_ | refine blockR ?_ | refine blockX ?_ | refine blockM rfl ?_
        simp [RetOk, RV, hc]
end Go.Proofs.Ytnmbnihbeggmgaa

set_option maxRecDepth 100000
set_option linter.unusedSimpArgs false
set_option linter.unusedVariables false
namespace Go.Proofs.Ytnmbnihbeggmgaa
open Go Ab Lib
theorem fine_Right (l : List Charge) : ACalls E.P 23 [encCharges l] (.d (.int .i64 (rightR l))) := by
  refine ACalls.intro E_ok Try.func23 rfl rfl Try.ntmps23 Try.results23 (Nat.le_of_ble_eq_true rfl) fun hok base S0 w0 => ?_
  have hl : l.length ≤ 9223372036854775807 := by have := (Ok_slice (hok (encCharges l) (by simp))).1; simpa using this
  -- region 0
  refine AWp.rseq E_ok [0, 2, 3, 4, 5, 8, 9, 10, 11, 12, 28, 32] fun K hK => ?_
  simp [encCharges_eq]
  repeat refine ⟨by first | omega | assumption | (simp only [maxLen]; omega), ?_⟩
  refine hK _ ?_
  clear hK K
  refine AWp.seq ?_
  -- region 1
  refine AWp.rseq E_ok [0, 2, 3, 4, 5, 8, 9, 10, 11, 12, 28, 32] fun K hK => ?_
  simp [encCharges_eq]
  repeat refine ⟨by first | omega | assumption | (simp only [maxLen]; omega), ?_⟩
  refine hK _ ?_
  clear hK K
  refine AWp.cond rfl (fun h8 => ?_) (fun h8 => ?_)
  · try simp at h8
    -- region 2
    refine AWp.rseq E_ok [0, 2, 3, 4, 5, 8, 9, 10, 11, 12, 28, 32] fun K hK => ?_
    simp [encCharges_eq, h8]
    repeat refine ⟨by first | omega | assumption | (simp only [maxLen]; omega), ?_⟩
    refine hK _ ?_
    clear hK K
    refine AWp.ret ?_
    repeat first | refine thenN ?_ | refine thenX ?_ | refine thenR ?_ | refine blockN ?_ | refine blockR ?_ | refine blockX ?_ | refine blockM rfl ?_
    first | (rw [rightR_full h8]; simp [RetOk, RV]; done) | (rw [rightR_ok h8]; simp [RetOk, RV, ← hs])
  · try simp at h8
    refine AWp.skip ?_
    repeat first | refine thenN ?_ | refine thenX ?_ | refine thenR ?_ | refine blockN ?_ | refine blockR ?_ | refine blockX ?_ | refine blockM rfl ?_
    refine AWp.seq ?_
    -- region 3
    refine AWp.rseq E_ok [0, 2, 3, 4, 5, 8, 9, 10, 11, 12, 28, 32] fun K hK => ?_
    simp [encCharges_eq, h8]
    repeat refine ⟨by first | omega | assumption | (simp only [maxLen]; omega), ?_⟩
    refine hK _ ?_
    clear hK K
    refine AWp.block ?_
    refine AWp.range (l := l) (F := rightF) (tot := rightF none l) (fun k y => match y with | pr => pr = if k = 0 then none else (l[k-1]?).map Charge.id) (fun k y => match y with | pr => [(0, T.val (encCharges l)), (9, T.val (encCharges l)), (10, T.val (.int .i64 l.length)), (11, T.val (.int .i64 k))]) (none) ?_ rfl ?_ ?_
    · simp [Weak, TW, encCharges_eq]
    · first | rfl | (simp [hx])
    rintro k pr hk hs hi
    try simp only at hi
    -- region 4
    refine AWp.rseq E_ok [0, 2, 3, 4, 5, 8, 9, 10, 11, 12, 28, 32] fun K hK => ?_
    simp [encCharges_eq, h8]
    repeat refine ⟨by first | omega | assumption | (simp only [maxLen]; omega), ?_⟩
    refine hK _ ?_
    clear hK K
    refine AWp.seq ?_
    refine AWp.cond rfl (fun h12 => ?_) (fun h12 => ?_)
    · try simp at h12
      obtain ⟨x, hx, hx2, hd⟩ := at_indexG (l := l) h12
      rw [hd] at hs
      refine AWp.skip ?_
      repeat first | refine thenN ?_ | refine thenX ?_ | refine thenR ?_ | refine blockN ?_ | refine blockR ?_ | refine blockX ?_ | refine blockM rfl ?_
      refine AWp.seq ?_
      refine AWp.block ?_
      -- region 5
      refine AWp.rseq E_ok [0, 2, 3, 4, 5, 8, 9, 10, 11, 12, 28, 32] fun K hK => ?_
      simp [encCharges_eq, h8, h12, hx, hx2]
      repeat refine ⟨by first | omega | assumption | (simp only [maxLen]; omega), ?_⟩
      refine hK _ ?_
      clear hK K
      refine AWp.seq ?_
      rcases Nat.eq_zero_or_pos k with hk0 | hk0
      · skip
        have hpr : pr = none := by simpa [hk0] using hi
        have hk1 : ¬ (0 < k) := by omega
        have hlo : lowId pr x.id = false := by rw [hpr]; rfl
        -- region 6
        refine AWp.rseqQ E_ok mixed [0, 2, 3, 4, 5, 8, 9, 10, 11, 12, 28, 32] (by kernel_rfl) fun K hK => ?_
        simp [encCharges_eq, h8, h12, hx, hx2, hk1]
        repeat refine ⟨by first | omega | assumption | (simp only [maxLen]; omega), ?_⟩
        refine hK _ ?_
        clear hK K
        refine AWp.cond rfl (fun h28 => ?_) (fun h28 => ?_)
        · exact absurd h28 (by simp)
        · try simp at h28
          have hlo : lowId pr x.id = false := by rw [hpr]; first | rfl | simpa [lowId] using h28
          refine AWp.skip ?_
          repeat first | refine thenN ?_ | refine thenX ?_ | refine thenR ?_ | refine blockN ?_ | refine blockR ?_ | refine blockX ?_ | refine blockM rfl ?_
          -- region 8
          refine AWp.rseq E_ok [0, 2, 3, 4, 5, 8, 9, 10, 11, 12, 28, 32] fun K hK => ?_
          simp [encCharges_eq, h8, h12, hx, hx2, hk1, h28]
          refine meet.of (fine_check x) ?_
          simp [encCharges_eq, h8, h12, hx, hx2, hk1, h28]
          repeat refine ⟨by first | omega | assumption | (simp only [maxLen]; omega), ?_⟩
          refine hK _ ?_
          clear hK K
          -- region 9
          refine AWp.rseq E_ok [0, 2, 3, 4, 5, 8, 9, 10, 11, 12, 28, 32] fun K hK => ?_
          simp [encCharges_eq, h8, h12, hx, hx2, hk1, h28]
          repeat refine ⟨by first | omega | assumption | (simp only [maxLen]; omega), ?_⟩
          refine hK _ ?_
          clear hK K
          refine AWp.cond rfl (fun h32 => ?_) (fun h32 => ?_)
          · try simp at h32
            have hc : ¬ (chkC x = 0) := h32
            -- region 10
            refine AWp.rseq E_ok [0, 2, 3, 4, 5, 8, 9, 10, 11, 12, 28, 32] fun K hK => ?_
            simp [encCharges_eq, h8, h12, hx, hx2, hk1, h28, h32]
            repeat refine ⟨by first | omega | assumption | (simp only [maxLen]; omega), ?_⟩
            refine hK _ ?_
            clear hK K
            refine AWp.ret ?_
            repeat first | refine thenN ?_ | refine thenX ?_ | refine thenR ?_ | refine blockN ?_ | refine blockR ?_ | refine blockX ?_ | refine blockM rfl ?_
            first | simp [rightF, hlo, hc] at hs | simp [rightF, hlo] at hs | simp [rightF] at hs
            first | (rw [rightR_full h8]; simp [RetOk, RV]; done) | (rw [rightR_ok h8]; simp [RetOk, RV, ← hs])
          · try simp at h32
            have hc : chkC x = 0 := h32
            refine AWp.skip ?_
            repeat first | refine thenN ?_ | refine thenX ?_ | refine thenR ?_ | refine blockN ?_ | refine blockR ?_ | refine blockX ?_ | refine blockM rfl ?_
            -- region 11
            refine AWp.rend E_ok [0, 2, 3, 4, 5, 8, 9, 10, 11, 12, 28, 32] fun K hK => ?_
            simp [encCharges_eq, h8, h12, hx, hx2, hk1, h28, h32]
            repeat refine ⟨by first | omega | assumption | (simp only [maxLen]; omega), ?_⟩
            refine hK _ ?_
            clear hK K
            repeat first | refine thenN ?_ | refine thenX ?_ | refine thenR ?_ | refine blockN ?_ | refine blockR ?_ | refine blockX ?_ | refine blockM rfl ?_
            have hw : IntKind.i64.wrap ((k : Int) + 1) = (k : Int) + 1 := by rw [wrap_i64] <;> omega
            simp [rightF, hlo, hc] at hs
            refine ⟨_, h12, hs, ?_, ?_⟩
            · first | rfl | (simp [hx])
            · simp [Weak, TW, hw, encCharges_eq]
      · skip
        obtain ⟨j, hkj⟩ : ∃ j, k = j + 1 := ⟨k - 1, by omega⟩
        obtain ⟨y, hy1, hy2, _⟩ := at_indexG (l := l) (k := j) (by omega)
        have hj0 : IntKind.i64.wrap ((k : Int) - 1) = (j : Int) := by rw [wrap_i64] <;> omega
        have hj1 : j < l.length := by omega
        have hpr : pr = some y.id := by simpa [hkj, hy1] using hi
        -- region 6
        refine AWp.rseqQ E_ok mixed [0, 2, 3, 4, 5, 8, 9, 10, 11, 12, 28, 32] (by kernel_rfl) fun K hK => ?_
        simp [encCharges_eq, h8, h12, hx, hx2, hk0, hj0, hy1, hy2, hj1]
        repeat refine ⟨by first | omega | assumption | (simp only [maxLen]; omega), ?_⟩
        refine hK _ ?_
        clear hK K
        refine AWp.cond rfl (fun h28 => ?_) (fun h28 => ?_)
        · try simp at h28
          have hlo : lowId pr x.id = true := by rw [hpr]; simpa [lowId] using h28
          -- region 7
          refine AWp.rseq E_ok [0, 2, 3, 4, 5, 8, 9, 10, 11, 12, 28, 32] fun K hK => ?_
          simp [encCharges_eq, h8, h12, hx, hx2, hk0, hj0, hy1, hy2, hj1, h28]
          repeat refine ⟨by first | omega | assumption | (simp only [maxLen]; omega), ?_⟩
          refine hK _ ?_
          clear hK K
          refine AWp.ret ?_
          repeat first | refine thenN ?_ | refine thenX ?_ | refine thenR ?_ | refine blockN ?_ | refine blockR ?_ | refine blockX ?_ | refine blockM rfl ?_
          first | simp [rightF, hlo, hc] at hs | simp [rightF, hlo] at hs | simp [rightF] at hs
          first | (rw [rightR_full h8]; simp [RetOk, RV]; done) | (rw [rightR_ok h8]; simp [RetOk, RV, ← hs])
        · try simp at h28
          have hlo : lowId pr x.id = false := by rw [hpr]; first | rfl | simpa [lowId] using h28
          refine AWp.skip ?_
          repeat first | refine thenN ?_ | refine thenX ?_ | refine thenR ?_ | refine blockN ?_ | refine blockR ?_ | refine blockX ?_ | refine blockM rfl ?_
          -- region 8
          refine AWp.rseq E_ok [0, 2, 3, 4, 5, 8, 9, 10, 11, 12, 28, 32] fun K hK => ?_
          simp [encCharges_eq, h8, h12, hx, hx2, hk0, hj0, hy1, hy2, hj1, h28]
          refine meet.of (fine_check x) ?_
          simp [encCharges_eq, h8, h12, hx, hx2, hk0, hj0, hy1, hy2, hj1, h28]
          repeat refine ⟨by first | omega | assumption | (simp only [maxLen]; omega), ?_⟩
          refine hK _ ?_
          clear hK K
          -- region 9
          refine AWp.rseq E_ok [0, 2, 3, 4, 5, 8, 9, 10, 11, 12, 28, 32] fun K hK => ?_
          simp [encCharges_eq, h8, h12, hx, hx2, hk0, hj0, hy1, hy2, hj1, h28]
          repeat refine ⟨by first | omega | assumption | (simp only [maxLen]; omega), ?_⟩
          refine hK _ ?_
          clear hK K
          refine AWp.cond rfl (fun h32 => ?_) (fun h32 => ?_)
          · try simp at h32
            have hc : ¬ (chkC x = 0) := h32
            -- region 10
            refine AWp.rseq E_ok [0, 2, 3, 4, 5, 8, 9, 10, 11, 12, 28, 32] fun K hK => ?_
            simp [encCharges_eq, h8, h12, hx, hx2, hk0, hj0, hy1, hy2, hj1, h28, h32]
            repeat refine ⟨by first | omega | assumption | (simp only [maxLen]; omega), ?_⟩
            refine hK _ ?_
            clear hK K
            refine AWp.ret ?_
            repeat first | refine thenN ?_ | refine thenX ?_ | refine thenR ?_ | refine blockN ?_ | refine blockR ?_ | refine blockX ?_ | refine blockM rfl ?_
            first | simp [rightF, hlo, hc] at hs | simp [rightF, hlo] at hs | simp [rightF] at hs
            first | (rw [rightR_full h8]; simp [RetOk, RV]; done) | (rw [rightR_ok h8]; simp [RetOk, RV, ← hs])
          · try simp at h32
            have hc : chkC x = 0 := h32
            refine AWp.skip ?_
            repeat first | refine thenN ?_ | refine thenX ?_ | refine thenR ?_ | refine blockN ?_ | refine blockR ?_ | refine blockX ?_ | refine blockM rfl ?_
            -- region 11
            refine AWp.rend E_ok [0, 2, 3, 4, 5, 8, 9, 10, 11, 12, 28, 32] fun K hK => ?_
            simp [encCharges_eq, h8, h12, hx, hx2, hk0, hj0, hy1, hy2, hj1, h28, h32]
            repeat refine ⟨by first | omega | assumption | (simp only [maxLen]; omega), ?_⟩
            refine hK _ ?_
            clear hK K
            repeat first | refine thenN ?_ | refine thenX ?_ | refine thenR ?_ | refine blockN ?_ | refine blockR ?_ | refine blockX ?_ | refine blockM rfl ?_
            have hw : IntKind.i64.wrap ((k : Int) + 1) = (k : Int) + 1 := by rw [wrap_i64] <;> omega
            simp [rightF, hlo, hc] at hs
            refine ⟨_, h12, hs, ?_, ?_⟩
            · first | rfl | (simp [hx])
            · simp [Weak, TW, hw, encCharges_eq]
    · try simp at h12
      obtain rfl : k = l.length := by omega
      simp [rightF] at hs
      refine AWp.exit ?_
      repeat first | refine thenN ?_ | refine thenX ?_ | refine thenR ?_ | refine blockN ?_ | refine blockR ?_ | refine blockX ?_ | refine blockM rfl ?_
      -- region 12
      refine AWp.rseq E_ok [0, 2, 3, 4, 5, 8, 9, 10, 11, 12, 28, 32] fun K hK => ?_
      simp [encCharges_eq, h8, h12]
      repeat refine ⟨by first | omega | assumption | (simp only [maxLen]; omega), ?_⟩
      refine hK _ ?_
      clear hK K
      refine AWp.ret ?_
      repeat first | refine thenN ?_ | refine thenX ?_ | refine thenR ?_ | refine blockN ?_ | refine blockR ?_ | refine blockX ?_ | refine blockM rfl ?_
      first | (rw [rightR_full h8]; simp [RetOk, RV]; done) | (rw [rightR_ok h8]; simp [RetOk, RV, ← hs])
end Go.Proofs.Ytnmbnihbeggmgaa

set_option maxRecDepth 100000
set_option linter.unusedSimpArgs false
set_option linter.unusedVariables false
namespace Go.Proofs.Ytnmbnihbeggmgaa
open Go Ab Lib
theorem ref29_Pay (l : List Charge) (p a : Int) (hl : l.length ≤ 1000000) : ACalls E.P 15 [encCharges l, .int .i64 p, .int .i64 a] (payR l p a) := by
  refine ACalls.intro E_ok Try.func15 rfl rfl Try.ntmps15 Try.results15 (Nat.le_of_ble_eq_true rfl) fun hok base S0 w0 => ?_
  -- region 0
  refine AWp.rseq E_ok [0, 1, 2, 6, 7, 8, 9, 10, 11, 12, 18, 22, 32, 52] fun K hK => ?_
  simp [encCharges_eq]
  repeat refine ⟨by first | omega | assumption | (simp only [maxLen]; omega), ?_⟩
  refine hK _ ?_
  clear hK K
  refine AWp.seq ?_
  -- region 1
  refine AWp.rseq E_ok [0, 1, 2, 6, 7, 8, 9, 10, 11, 12, 18, 22, 32, 52] fun K hK => ?_
  simp [encCharges_eq]
  repeat refine ⟨by first | omega | assumption | (simp only [maxLen]; omega), ?_⟩
  refine hK _ ?_
  clear hK K
  refine AWp.cond rfl (fun h18 => ?_) (fun h18 => ?_)
  · try simp at h18
    -- region 2
    refine AWp.rseq E_ok [0, 1, 2, 6, 7, 8, 9, 10, 11, 12, 18, 22, 32, 52] fun K hK => ?_
    simp [encCharges_eq, h18]
    repeat refine ⟨by first | omega | assumption | (simp only [maxLen]; omega), ?_⟩
    refine hK _ ?_
    clear hK K
    refine AWp.ret ?_
    repeat first | refine thenN ?_ | refine thenX ?_ | refine thenR ?_ | refine blockN ?_ | refine blockR ?_ | refine blockX ?_ | refine blockM rfl ?_
    first | (rw [payR_bad h18]; simp [RetOk, RV, RVs, encCharges_eq]; done) | (rw [payR_good h18]; simp [RetOk, RV, RVs, ← hs, encCharges_eq])
  · try simp at h18
    refine AWp.skip ?_
    repeat first | refine thenN ?_ | refine thenX ?_ | refine thenR ?_ | refine blockN ?_ | refine blockR ?_ | refine blockX ?_ | refine blockM rfl ?_
    -- region 3
    refine AWp.rseq E_ok [0, 1, 2, 6, 7, 8, 9, 10, 11, 12, 18, 22, 32, 52] fun K hK => ?_
    simp [encCharges_eq, h18]
    repeat refine ⟨by first | omega | assumption | (simp only [maxLen]; omega), ?_⟩
    refine hK _ ?_
    clear hK K
    refine AWp.seq ?_
    -- region 4
    refine AWp.rseq E_ok [0, 1, 2, 6, 7, 8, 9, 10, 11, 12, 18, 22, 32, 52] fun K hK => ?_
    simp [encCharges_eq, h18]
    repeat refine ⟨by first | omega | assumption | (simp only [maxLen]; omega), ?_⟩
    refine hK _ ?_
    clear hK K
    refine AWp.block ?_
    refine AWp.range (l := l) (F := payF p) (tot := payF p (a, []) l) (fun k y => match y with | (r, o) => o.length ≤ k) (fun k y => match y with | (r, o) => [(0, T.val (encCharges l)), (1, T.val (.int .i64 p)), (2, T.val (.int .i64 r)), (9, T.own true (encCharge z0) (o.map encCharge)), (10, T.val (.int .i64 k))]) (a, []) ?_ rfl ?_ ?_
    · simp [Weak, TW, encCharges_eq]
    · first | exact trivial | (simp; omega) | simp
    rintro k ⟨r, o⟩ hk hs hi
    try simp only at hi
    refine AWp.seq ?_
    -- region 5
    refine AWp.rseq E_ok [0, 1, 2, 6, 7, 8, 9, 10, 11, 12, 18, 22, 32, 52] fun K hK => ?_
    simp [encCharges_eq, h18]
    repeat refine ⟨by first | omega | assumption | (simp only [maxLen]; omega), ?_⟩
    refine hK _ ?_
    clear hK K
    refine AWp.cond rfl (fun h22 => ?_) (fun h22 => ?_)
    · try simp at h22
      obtain ⟨x, hx, hx2, hd⟩ := at_indexG (l := l) h22
      rw [hd] at hs
      refine AWp.skip ?_
      repeat first | refine thenN ?_ | refine thenX ?_ | refine thenR ?_ | refine blockN ?_ | refine blockR ?_ | refine blockX ?_ | refine blockM rfl ?_
      refine AWp.seq ?_
      refine AWp.block ?_
      -- region 7
      refine AWp.rseq E_ok [0, 1, 2, 6, 7, 8, 9, 10, 11, 12, 18, 22, 32, 52] fun K hK => ?_
      simp [encCharges_eq, h18, h22, hx, hx2]
      repeat refine ⟨by first | omega | assumption | (simp only [maxLen]; omega), ?_⟩
      refine hK _ ?_
      clear hK K
      refine AWp.seq ?_
      -- region 8
      refine AWp.rseq E_ok [0, 1, 2, 6, 7, 8, 9, 10, 11, 12, 18, 22, 32, 52] fun K hK => ?_
      simp [encCharges_eq, h18, h22, hx, hx2]
      repeat refine ⟨by first | omega | assumption | (simp only [maxLen]; omega), ?_⟩
      refine hK _ ?_
      clear hK K
      refine AWp.cond rfl (fun h32 => ?_) (fun h32 => ?_)
      · try simp at h32
        try rw [← Int.not_lt] at h32
        -- region 9
        refine AWp.rseq E_ok [0, 1, 2, 6, 7, 8, 9, 10, 11, 12, 18, 22, 32, 52] fun K hK => ?_
        simp [encCharges_eq, h18, h22, hx, hx2, h32]
        repeat refine ⟨by first | omega | assumption | (simp only [maxLen]; omega), ?_⟩
        refine hK _ ?_
        clear hK K
        -- region 10
        refine AWp.rseq E_ok [0, 1, 2, 6, 7, 8, 9, 10, 11, 12, 18, 22, 32, 52] fun K hK => ?_
        simp [encCharges_eq, h18, h22, hx, hx2, h32]
        repeat refine ⟨by first | omega | assumption | (simp only [maxLen]; omega), ?_⟩
        refine hK _ ?_
        clear hK K
        -- region 11
        refine AWp.rend E_ok [0, 1, 2, 6, 7, 8, 9, 10, 11, 12, 18, 22, 32, 52] fun K hK => ?_
        simp [encCharges_eq, h18, h22, hx, hx2, h32]
        repeat refine ⟨by first | omega | assumption | (simp only [maxLen]; omega), ?_⟩
        refine hK _ ?_
        clear hK K
        repeat first | refine thenN ?_ | refine thenX ?_ | refine thenR ?_ | refine blockN ?_ | refine blockR ?_ | refine blockX ?_ | refine blockM rfl ?_
        -- region 12
        refine AWp.rseq E_ok [0, 1, 2, 6, 7, 8, 9, 10, 11, 12, 18, 22, 32, 52] fun K hK => ?_
        simp [encCharges_eq, h18, h22, hx, hx2, h32]
        repeat refine ⟨by first | omega | assumption | (simp only [maxLen]; omega), ?_⟩
        refine hK _ ?_
        clear hK K
        refine AWp.cond rfl (fun h52 => ?_) (fun h52 => ?_)
        · try simp at h52
          try rw [← Int.not_lt] at h52
          -- region 13
          refine AWp.rend E_ok [0, 1, 2, 6, 7, 8, 9, 10, 11, 12, 18, 22, 32, 52] fun K hK => ?_
          simp [encCharges_eq, h18, h22, hx, hx2, h32, h52]
          repeat refine ⟨by first | omega | assumption | (simp only [maxLen]; omega), ?_⟩
          refine hK _ ?_
          clear hK K
          repeat first | refine thenN ?_ | refine thenX ?_ | refine thenR ?_ | refine blockN ?_ | refine blockR ?_ | refine blockX ?_ | refine blockM rfl ?_
          -- region 6
          refine AWp.rend E_ok [0, 1, 2, 6, 7, 8, 9, 10, 11, 12, 18, 22, 32, 52] fun K hK => ?_
          simp [encCharges_eq, h18, h22, hx, hx2, h32, h52]
          repeat refine ⟨by first | omega | assumption | (simp only [maxLen]; omega), ?_⟩
          refine hK _ ?_
          clear hK K
          repeat first | refine thenN ?_ | refine thenX ?_ | refine thenR ?_ | refine blockN ?_ | refine blockR ?_ | refine blockX ?_ | refine blockM rfl ?_
          have hw : IntKind.i64.wrap ((k : Int) + 1) = (k : Int) + 1 := by rw [wrap_i64] <;> omega
          simp [payF, h18, h32, h52, payStep, encCharge] at hs
          refine ⟨_, h22, hs, ?_, ?_⟩
          · first | exact trivial | (simp; omega) | simp
          · simp [Weak, TW, hw, encCharges_eq, payStep, encCharge]
        · try simp at h52
          try rw [← Int.not_lt] at h52
          refine AWp.skip ?_
          repeat first | refine thenN ?_ | refine thenX ?_ | refine thenR ?_ | refine blockN ?_ | refine blockR ?_ | refine blockX ?_ | refine blockM rfl ?_
          -- region 6
          refine AWp.rend E_ok [0, 1, 2, 6, 7, 8, 9, 10, 11, 12, 18, 22, 32, 52] fun K hK => ?_
          simp [encCharges_eq, h18, h22, hx, hx2, h32, h52]
          repeat refine ⟨by first | omega | assumption | (simp only [maxLen]; omega), ?_⟩
          refine hK _ ?_
          clear hK K
          repeat first | refine thenN ?_ | refine thenX ?_ | refine thenR ?_ | refine blockN ?_ | refine blockR ?_ | refine blockX ?_ | refine blockM rfl ?_
          have hw : IntKind.i64.wrap ((k : Int) + 1) = (k : Int) + 1 := by rw [wrap_i64] <;> omega
          simp [payF, h18, h32, h52, payStep, encCharge] at hs
          refine ⟨_, h22, hs, ?_, ?_⟩
          · first | exact trivial | (simp; omega) | simp
          · simp [Weak, TW, hw, encCharges_eq, payStep, encCharge]
      · try simp at h32
        try rw [← Int.not_lt] at h32
        refine AWp.skip ?_
        repeat first | refine thenN ?_ | refine thenX ?_ | refine thenR ?_ | refine blockN ?_ | refine blockR ?_ | refine blockX ?_ | refine blockM rfl ?_
        -- region 12
        refine AWp.rseq E_ok [0, 1, 2, 6, 7, 8, 9, 10, 11, 12, 18, 22, 32, 52] fun K hK => ?_
        simp [encCharges_eq, h18, h22, hx, hx2, h32]
        repeat refine ⟨by first | omega | assumption | (simp only [maxLen]; omega), ?_⟩
        refine hK _ ?_
        clear hK K
        refine AWp.cond rfl (fun h52 => ?_) (fun h52 => ?_)
        · try simp at h52
          try rw [← Int.not_lt] at h52
          -- region 13
          refine AWp.rend E_ok [0, 1, 2, 6, 7, 8, 9, 10, 11, 12, 18, 22, 32, 52] fun K hK => ?_
          simp [encCharges_eq, h18, h22, hx, hx2, h32, h52]
          repeat refine ⟨by first | omega | assumption | (simp only [maxLen]; omega), ?_⟩
          refine hK _ ?_
          clear hK K
          repeat first | refine thenN ?_ | refine thenX ?_ | refine thenR ?_ | refine blockN ?_ | refine blockR ?_ | refine blockX ?_ | refine blockM rfl ?_
          -- region 6
          refine AWp.rend E_ok [0, 1, 2, 6, 7, 8, 9, 10, 11, 12, 18, 22, 32, 52] fun K hK => ?_
          simp [encCharges_eq, h18, h22, hx, hx2, h32, h52]
          repeat refine ⟨by first | omega | assumption | (simp only [maxLen]; omega), ?_⟩
          refine hK _ ?_
          clear hK K
          repeat first | refine thenN ?_ | refine thenX ?_ | refine thenR ?_ | refine blockN ?_ | refine blockR ?_ | refine blockX ?_ | refine blockM rfl ?_
          have hw : IntKind.i64.wrap ((k : Int) + 1) = (k : Int) + 1 := by rw [wrap_i64] <;> omega
          simp [payF, h18, h32, h52, payStep, encCharge] at hs
          refine ⟨_, h22, hs, ?_, ?_⟩
          · first | exact trivial | (simp; omega) | simp
          · simp [Weak, TW, hw, encCharges_eq, payStep, encCharge]
        · try simp at h52
          try rw [← Int.not_lt] at h52
          refine AWp.skip ?_
          repeat first | refine thenN ?_ | refine thenX ?_ | refine thenR ?_ | refine blockN ?_ | refine blockR ?_ | refine blockX ?_ | refine blockM rfl ?_
          -- region 6
          refine AWp.rend E_ok [0, 1, 2, 6, 7, 8, 9, 10, 11, 12, 18, 22, 32, 52] fun K hK => ?_
          simp [encCharges_eq, h18, h22, hx, hx2, h32, h52]
          repeat refine ⟨by first | omega | assumption | (simp only [maxLen]; omega), ?_⟩
          refine hK _ ?_
          clear hK K
          repeat first | refine thenN ?_ | refine thenX ?_ | refine thenR ?_ | refine blockN ?_ | refine blockR ?_ | refine blockX ?_ | refine blockM rfl ?_
          have hw : IntKind.i64.wrap ((k : Int) + 1) = (k : Int) + 1 := by rw [wrap_i64] <;> omega
          simp [payF, h18, h32, h52, payStep, encCharge] at hs
          refine ⟨_, h22, hs, ?_, ?_⟩
          · first | exact trivial | (simp; omega) | simp
          · simp [Weak, TW, hw, encCharges_eq, payStep, encCharge]
    · try simp at h22
      obtain rfl : k = l.length := by omega
      simp [payF] at hs
      refine AWp.exit ?_
      repeat first | refine thenN ?_ | refine thenX ?_ | refine thenR ?_ | refine blockN ?_ | refine blockR ?_ | refine blockX ?_ | refine blockM rfl ?_
      -- region 14
      refine AWp.rseq E_ok [0, 1, 2, 6, 7, 8, 9, 10, 11, 12, 18, 22, 32, 52] fun K hK => ?_
      simp [encCharges_eq, h18, h22]
      repeat refine ⟨by first | omega | assumption | (simp only [maxLen]; omega), ?_⟩
      refine hK _ ?_
      clear hK K
      refine AWp.ret ?_
      repeat first | refine thenN ?_ | refine thenX ?_ | refine thenR ?_ | refine blockN ?_ | refine blockR ?_ | refine blockX ?_ | refine blockM rfl ?_
      first | (rw [payR_bad h18]; simp [RetOk, RV, RVs, encCharges_eq]; done) | (rw [payR_good h18]; simp [RetOk, RV, RVs, ← hs, encCharges_eq])
end Go.Proofs.Ytnmbnihbeggmgaa

set_option maxRecDepth 100000
set_option linter.unusedSimpArgs false
set_option linter.unusedVariables false
namespace Go.Proofs.Ytnmbnihbeggmgaa
open Go Ab Lib
theorem ref29_Owed (l : List Charge) (p : Int) : ACalls E.P 17 [encCharges l, .int .i64 p] (.d (.int .i64 (owedG p 0 l))) := by
  refine ACalls.intro E_ok Try.func17 rfl rfl Try.ntmps17 Try.results17 (Nat.le_of_ble_eq_true rfl) fun hok base S0 w0 => ?_
  have hl : l.length ≤ 9223372036854775807 := by have := (Ok_slice (hok (encCharges l) (by simp))).1; simpa using this
  -- region 0
  refine AWp.rseq E_ok [0, 1, 4, 5, 6, 10, 19] fun K hK => ?_
  simp [encCharges_eq]
  repeat refine ⟨by first | omega | assumption | (simp only [maxLen]; omega), ?_⟩
  refine hK _ ?_
  clear hK K
  -- region 1
  refine AWp.rseq E_ok [0, 1, 4, 5, 6, 10, 19] fun K hK => ?_
  simp [encCharges_eq]
  repeat refine ⟨by first | omega | assumption | (simp only [maxLen]; omega), ?_⟩
  refine hK _ ?_
  clear hK K
  refine AWp.seq ?_
  -- region 2
  refine AWp.rseq E_ok [0, 1, 4, 5, 6, 10, 19] fun K hK => ?_
  simp [encCharges_eq]
  repeat refine ⟨by first | omega | assumption | (simp only [maxLen]; omega), ?_⟩
  refine hK _ ?_
  clear hK K
  refine AWp.block ?_
  refine AWp.range (l := l) (F := owedG p) (tot := owedG p 0 l) (fun k y => match y with | s => True) (fun k y => match y with | s => [(0, T.val (encCharges l)), (1, T.val (.int .i64 p)), (5, T.val (.int .i64 s)), (6, T.val (.int .i64 k))]) (0) ?_ rfl ?_ ?_
  · simp [Weak, TW, encCharges_eq]
  · first | exact trivial | (simp; omega) | simp
  rintro k s hk hs hi
  try simp only at hi
  refine AWp.seq ?_
  -- region 3
  refine AWp.rseq E_ok [0, 1, 4, 5, 6, 10, 19] fun K hK => ?_
  simp [encCharges_eq]
  repeat refine ⟨by first | omega | assumption | (simp only [maxLen]; omega), ?_⟩
  refine hK _ ?_
  clear hK K
  refine AWp.cond rfl (fun h10 => ?_) (fun h10 => ?_)
  · try simp at h10
    obtain ⟨x, hx, hx2, hd⟩ := at_indexG (l := l) h10
    rw [hd] at hs
    refine AWp.skip ?_
    repeat first | refine thenN ?_ | refine thenX ?_ | refine thenR ?_ | refine blockN ?_ | refine blockR ?_ | refine blockX ?_ | refine blockM rfl ?_
    refine AWp.seq ?_
    refine AWp.block ?_
    -- region 5
    refine AWp.rseq E_ok [0, 1, 4, 5, 6, 10, 19] fun K hK => ?_
    simp [encCharges_eq, h10, hx, hx2]
    repeat refine ⟨by first | omega | assumption | (simp only [maxLen]; omega), ?_⟩
    refine hK _ ?_
    clear hK K
    refine AWp.cond rfl (fun h19 => ?_) (fun h19 => ?_)
    · try simp at h19
      -- region 6
      refine AWp.rendQ E_ok mixed [0, 1, 4, 5, 6, 10, 19] (by kernel_rfl) fun K hK => ?_
      simp [encCharges_eq, h10, hx, hx2, h19]
      repeat refine ⟨by first | omega | assumption | (simp only [maxLen]; omega), ?_⟩
      refine hK _ ?_
      clear hK K
      repeat first | refine thenN ?_ | refine thenX ?_ | refine thenR ?_ | refine blockN ?_ | refine blockR ?_ | refine blockX ?_ | refine blockM rfl ?_
      -- region 4
      refine AWp.rend E_ok [0, 1, 4, 5, 6, 10, 19] fun K hK => ?_
      simp [encCharges_eq, h10, hx, hx2, h19]
      repeat refine ⟨by first | omega | assumption | (simp only [maxLen]; omega), ?_⟩
      refine hK _ ?_
      clear hK K
      repeat first | refine thenN ?_ | refine thenX ?_ | refine thenR ?_ | refine blockN ?_ | refine blockR ?_ | refine blockX ?_ | refine blockM rfl ?_
      have hw : IntKind.i64.wrap ((k : Int) + 1) = (k : Int) + 1 := by rw [wrap_i64] <;> omega
      simp [owedG, h19] at hs
      refine ⟨_, h10, hs, ?_, ?_⟩
      · first | exact trivial | (simp; omega) | simp
      · simp [Weak, TW, hw, encCharges_eq]
    · try simp at h19
      refine AWp.skip ?_
      repeat first | refine thenN ?_ | refine thenX ?_ | refine thenR ?_ | refine blockN ?_ | refine blockR ?_ | refine blockX ?_ | refine blockM rfl ?_
      -- region 4
      refine AWp.rend E_ok [0, 1, 4, 5, 6, 10, 19] fun K hK => ?_
      simp [encCharges_eq, h10, hx, hx2, h19]
      repeat refine ⟨by first | omega | assumption | (simp only [maxLen]; omega), ?_⟩
      refine hK _ ?_
      clear hK K
      repeat first | refine thenN ?_ | refine thenX ?_ | refine thenR ?_ | refine blockN ?_ | refine blockR ?_ | refine blockX ?_ | refine blockM rfl ?_
      have hw : IntKind.i64.wrap ((k : Int) + 1) = (k : Int) + 1 := by rw [wrap_i64] <;> omega
      simp [owedG, h19] at hs
      refine ⟨_, h10, hs, ?_, ?_⟩
      · first | exact trivial | (simp; omega) | simp
      · simp [Weak, TW, hw, encCharges_eq]
  · try simp at h10
    obtain rfl : k = l.length := by omega
    simp [owedG] at hs
    refine AWp.exit ?_
    repeat first | refine thenN ?_ | refine thenX ?_ | refine thenR ?_ | refine blockN ?_ | refine blockR ?_ | refine blockX ?_ | refine blockM rfl ?_
    -- region 7
    refine AWp.rseq E_ok [0, 1, 4, 5, 6, 10, 19] fun K hK => ?_
    simp [encCharges_eq, h10]
    repeat refine ⟨by first | omega | assumption | (simp only [maxLen]; omega), ?_⟩
    refine hK _ ?_
    clear hK K
    refine AWp.ret ?_
    repeat first | refine thenN ?_ | refine thenX ?_ | refine thenR ?_ | refine blockN ?_ | refine blockR ?_ | refine blockX ?_ | refine blockM rfl ?_
    simp [RetOk, RV, hs]
end Go.Proofs.Ytnmbnihbeggmgaa

set_option maxRecDepth 100000
set_option linter.unusedSimpArgs false
set_option linter.unusedVariables false
namespace Go.Proofs.Ytnmbnihbeggmgaa
open Go Ab Lib
theorem fine_Pay_t (l : List Charge) (p a : Int) (h : l.length ≤ 1000000) : ACalls E.P 14 [encCharges l, .int .i64 p, .int .i64 a] (.tup [encCharges (payO l p a), .int .i64 (payX l p a), .int .i64 (payE l p a)]) := payR_tup l p a ▸ fine_Pay l p a h
theorem ref29_Pay_t (l : List Charge) (p a : Int) (h : l.length ≤ 1000000) : ACalls E.P 15 [encCharges l, .int .i64 p, .int .i64 a] (.tup [encCharges (payO l p a), .int .i64 (payX l p a), .int .i64 (payE l p a)]) := payR_tup l p a ▸ ref29_Pay l p a h
theorem ref29_Owed_t (l : List Charge) (p : Int) : ACalls E.P 17 [encCharges l, .int .i64 p] (.d (.int .i64 (owedF p 0 l))) := owedG_eq p l 0 ▸ ref29_Owed l p

end Go.Proofs.Ytnmbnihbeggmgaa

set_option maxRecDepth 100000
set_option linter.unusedSimpArgs false
set_option linter.unusedVariables false
namespace Go.Proofs.Ytnmbnihbeggmgaa
open Go Ab Lib
theorem ref29_Waive (l : List Charge) (i : Int) (hl : l.length ≤ 1000000) : ACalls E.P 20 [encCharges l, .int .i64 i] (wvR l i) := by
  refine ACalls.intro E_ok Try.func20 rfl rfl Try.ntmps20 Try.results20 (Nat.le_of_ble_eq_true rfl) fun hok base S0 w0 => ?_
  -- region 0
  refine AWp.rseq E_ok [0, 1, 4, 5, 6, 7, 8, 9, 13, 22, 36] fun K hK => ?_
  simp [encCharges_eq]
  repeat refine ⟨by first | omega | assumption | (simp only [maxLen]; omega), ?_⟩
  refine hK _ ?_
  clear hK K
  -- region 1
  refine AWp.rseq E_ok [0, 1, 4, 5, 6, 7, 8, 9, 13, 22, 36] fun K hK => ?_
  simp [encCharges_eq]
  repeat refine ⟨by first | omega | assumption | (simp only [maxLen]; omega), ?_⟩
  refine hK _ ?_
  clear hK K
  -- region 2
  refine AWp.rseq E_ok [0, 1, 4, 5, 6, 7, 8, 9, 13, 22, 36] fun K hK => ?_
  simp [encCharges_eq]
  repeat refine ⟨by first | omega | assumption | (simp only [maxLen]; omega), ?_⟩
  refine hK _ ?_
  clear hK K
  refine AWp.seq ?_
  -- region 3
  refine AWp.rseq E_ok [0, 1, 4, 5, 6, 7, 8, 9, 13, 22, 36] fun K hK => ?_
  simp [encCharges_eq]
  repeat refine ⟨by first | omega | assumption | (simp only [maxLen]; omega), ?_⟩
  refine hK _ ?_
  clear hK K
  refine AWp.block ?_
  refine AWp.range (l := l) (F := wvF i) (tot := wvF i ([], -1) l) (fun k y => match y with | (o, q) => o.length ≤ k) (fun k y => match y with | (o, q) => [(0, T.val (encCharges l)), (1, T.val (.int .i64 i)), (7, T.own true (encCharge z0) (o.map encCharge)), (8, T.val (.int .i64 q)), (9, T.val (.int .i64 k))]) ([], -1) ?_ rfl ?_ ?_
  · simp [Weak, TW, encCharges_eq]
  · first | exact trivial | (simp; omega) | simp
  rintro k ⟨o, q⟩ hk hs hi
  try simp only at hi
  refine AWp.seq ?_
  -- region 4
  refine AWp.rseq E_ok [0, 1, 4, 5, 6, 7, 8, 9, 13, 22, 36] fun K hK => ?_
  simp [encCharges_eq]
  repeat refine ⟨by first | omega | assumption | (simp only [maxLen]; omega), ?_⟩
  refine hK _ ?_
  clear hK K
  refine AWp.cond rfl (fun h13 => ?_) (fun h13 => ?_)
  · try simp at h13
    obtain ⟨x, hx, hx2, hd⟩ := at_indexG (l := l) h13
    rw [hd] at hs
    refine AWp.skip ?_
    repeat first | refine thenN ?_ | refine thenX ?_ | refine thenR ?_ | refine blockN ?_ | refine blockR ?_ | refine blockX ?_ | refine blockM rfl ?_
    refine AWp.seq ?_
    refine AWp.block ?_
    -- region 6
    refine AWp.rseq E_ok [0, 1, 4, 5, 6, 7, 8, 9, 13, 22, 36] fun K hK => ?_
    simp [encCharges_eq, h13, hx, hx2]
    repeat refine ⟨by first | omega | assumption | (simp only [maxLen]; omega), ?_⟩
    refine hK _ ?_
    clear hK K
    refine AWp.cond rfl (fun h22 => ?_) (fun h22 => ?_)
    · try simp at h22
      -- region 7
      refine AWp.rend E_ok [0, 1, 4, 5, 6, 7, 8, 9, 13, 22, 36] fun K hK => ?_
      simp [encCharges_eq, h13, hx, hx2, h22]
      repeat refine ⟨by first | omega | assumption | (simp only [maxLen]; omega), ?_⟩
      refine hK _ ?_
      clear hK K
      repeat first | refine thenN ?_ | refine thenX ?_ | refine thenR ?_ | refine blockN ?_ | refine blockR ?_ | refine blockX ?_ | refine blockM rfl ?_
      -- region 5
      refine AWp.rend E_ok [0, 1, 4, 5, 6, 7, 8, 9, 13, 22, 36] fun K hK => ?_
      simp [encCharges_eq, h13, hx, hx2, h22]
      repeat refine ⟨by first | omega | assumption | (simp only [maxLen]; omega), ?_⟩
      refine hK _ ?_
      clear hK K
      repeat first | refine thenN ?_ | refine thenX ?_ | refine thenR ?_ | refine blockN ?_ | refine blockR ?_ | refine blockX ?_ | refine blockM rfl ?_
      have hw : IntKind.i64.wrap ((k : Int) + 1) = (k : Int) + 1 := by rw [wrap_i64] <;> omega
      simp [wvF, h22, encCharge] at hs
      refine ⟨_, h13, hs, ?_, ?_⟩
      · first | exact trivial | (simp; omega) | simp
      · simp [Weak, TW, hw, encCharges_eq, encCharge]
    · try simp at h22
      -- region 8
      refine AWp.rend E_ok [0, 1, 4, 5, 6, 7, 8, 9, 13, 22, 36] fun K hK => ?_
      simp [encCharges_eq, h13, hx, hx2, h22]
      repeat refine ⟨by first | omega | assumption | (simp only [maxLen]; omega), ?_⟩
      refine hK _ ?_
      clear hK K
      repeat first | refine thenN ?_ | refine thenX ?_ | refine thenR ?_ | refine blockN ?_ | refine blockR ?_ | refine blockX ?_ | refine blockM rfl ?_
      -- region 5
      refine AWp.rend E_ok [0, 1, 4, 5, 6, 7, 8, 9, 13, 22, 36] fun K hK => ?_
      simp [encCharges_eq, h13, hx, hx2, h22]
      repeat refine ⟨by first | omega | assumption | (simp only [maxLen]; omega), ?_⟩
      refine hK _ ?_
      clear hK K
      repeat first | refine thenN ?_ | refine thenX ?_ | refine thenR ?_ | refine blockN ?_ | refine blockR ?_ | refine blockX ?_ | refine blockM rfl ?_
      have hw : IntKind.i64.wrap ((k : Int) + 1) = (k : Int) + 1 := by rw [wrap_i64] <;> omega
      simp [wvF, h22, encCharge] at hs
      refine ⟨_, h13, hs, ?_, ?_⟩
      · first | exact trivial | (simp; omega) | simp
      · simp [Weak, TW, hw, encCharges_eq, encCharge]
  · try simp at h13
    obtain rfl : k = l.length := by omega
    simp [wvF] at hs
    refine AWp.exit ?_
    repeat first | refine thenN ?_ | refine thenX ?_ | refine thenR ?_ | refine blockN ?_ | refine blockR ?_ | refine blockX ?_ | refine blockM rfl ?_
    refine AWp.seq ?_
    -- region 9
    refine AWp.rseq E_ok [0, 1, 4, 5, 6, 7, 8, 9, 13, 22, 36] fun K hK => ?_
    simp [encCharges_eq, h13]
    repeat refine ⟨by first | omega | assumption | (simp only [maxLen]; omega), ?_⟩
    refine hK _ ?_
    clear hK K
    refine AWp.cond rfl (fun h36 => ?_) (fun h36 => ?_)
    · try simp at h36
      -- region 10
      refine AWp.rseq E_ok [0, 1, 4, 5, 6, 7, 8, 9, 13, 22, 36] fun K hK => ?_
      simp [encCharges_eq, h13, h36]
      repeat refine ⟨by first | omega | assumption | (simp only [maxLen]; omega), ?_⟩
      refine hK _ ?_
      clear hK K
      refine AWp.ret ?_
      repeat first | refine thenN ?_ | refine thenX ?_ | refine thenR ?_ | refine blockN ?_ | refine blockR ?_ | refine blockX ?_ | refine blockM rfl ?_
      first | (rw [wvR_none (by rw [← hs]; exact h36)]; simp [RetOk, RV, RVs, encCharges_eq]; done) | (rw [wvR_some (by rw [← hs]; exact h36)]; simp [RetOk, RV, RVs, ← hs, encCharges_eq])
    · try simp at h36
      refine AWp.skip ?_
      repeat first | refine thenN ?_ | refine thenX ?_ | refine thenR ?_ | refine blockN ?_ | refine blockR ?_ | refine blockX ?_ | refine blockM rfl ?_
      -- region 11
      refine AWp.rseq E_ok [0, 1, 4, 5, 6, 7, 8, 9, 13, 22, 36] fun K hK => ?_
      simp [encCharges_eq, h13, h36]
      repeat refine ⟨by first | omega | assumption | (simp only [maxLen]; omega), ?_⟩
      refine hK _ ?_
      clear hK K
      refine AWp.ret ?_
      repeat first | refine thenN ?_ | refine thenX ?_ | refine thenR ?_ | refine blockN ?_ | refine blockR ?_ | refine blockX ?_ | refine blockM rfl ?_
      first | (rw [wvR_none (by rw [← hs]; exact h36)]; simp [RetOk, RV, RVs, encCharges_eq]; done) | (rw [wvR_some (by rw [← hs]; exact h36)]; simp [RetOk, RV, RVs, ← hs, encCharges_eq])
end Go.Proofs.Ytnmbnihbeggmgaa

set_option maxRecDepth 100000
set_option linter.unusedSimpArgs false
set_option linter.unusedVariables false
namespace Go.Proofs.Ytnmbnihbeggmgaa
open Go Ab Lib
theorem fine_Refund_1 (c : Charge) (p i k : Int) : ACalls E.P 34 [encCharge c, .ref [.int .i64 p], .ref [.int .i64 i], .ref [.int .i64 k]] (.d (.bool (refP p i k c))) := by
  refine ACalls.intro E_ok Try.func34 rfl rfl Try.ntmps34 Try.results34 (Nat.le_of_ble_eq_true rfl) fun hok base S0 w0 => ?_
  -- region 0
  refine AWp.rseq E_ok [0, 1, 2, 3, 4, 5] fun K hK => ?_
  simp [encCharge_eq]
  repeat refine ⟨by first | omega | assumption | (simp only [maxLen]; omega), ?_⟩
  refine hK _ ?_
  clear hK K
  -- region 1
  refine AWp.rseq E_ok [0, 1, 2, 3, 4, 5] fun K hK => ?_
  simp [encCharge_eq]
  repeat refine ⟨by first | omega | assumption | (simp only [maxLen]; omega), ?_⟩
  refine hK _ ?_
  clear hK K
  refine AWp.ret ?_
  repeat first | refine thenN ?_ | refine thenX ?_ | refine thenR ?_ | refine blockN ?_ | refine blockR ?_ | refine blockX ?_ | refine blockM rfl ?_
  simp [RetOk, RV, refP]
end Go.Proofs.Ytnmbnihbeggmgaa

set_option maxRecDepth 100000
set_option linter.unusedSimpArgs false
set_option linter.unusedVariables false
namespace Go.Proofs.Ytnmbnihbeggmgaa
open Go Ab Lib
theorem fine_Refund (l : List Charge) (p i k : Int) (hl : l.length ≤ 1000000) : ACalls E.P 21 [encCharges l, .int .i64 p, .int .i64 i, .int .i64 k] (refundR l p i k) := by
  refine ACalls.intro E_ok Try.func21 rfl rfl Try.ntmps21 Try.results21 (Nat.le_of_ble_eq_true rfl) fun hok base S0 w0 => ?_
  -- region 0
  refine AWp.rseq E_ok [0, 1, 2, 3, 5, 6, 7, 8, 9, 10, 11] fun K hK => ?_
  simp [encCharges_eq, remR]
  repeat refine ⟨by first | omega | assumption | (simp only [maxLen]; omega), ?_⟩
  refine hK _ ?_
  clear hK K
  -- region 1
  refine AWp.rseq E_ok [0, 1, 2, 3, 5, 6, 7, 8, 9, 10, 11] fun K hK => ?_
  simp [encCharges_eq, remR]
  refine meet.of (fine_remove l 34 [.ref [.int .i64 p], .ref [.int .i64 i], .ref [.int .i64 k]] (refP p i k) (fun c => fine_Refund_1 c p i k) hl) ?_
  simp [encCharges_eq, remR]
  repeat refine ⟨by first | omega | assumption | (simp only [maxLen]; omega), ?_⟩
  refine hK _ ?_
  clear hK K
  -- region 2
  refine AWp.rseq E_ok [0, 1, 2, 3, 5, 6, 7, 8, 9, 10, 11] fun K hK => ?_
  simp [encCharges_eq, remR]
  repeat refine ⟨by first | omega | assumption | (simp only [maxLen]; omega), ?_⟩
  refine hK _ ?_
  clear hK K
  refine AWp.ret ?_
  repeat first | refine thenN ?_ | refine thenX ?_ | refine thenR ?_ | refine blockN ?_ | refine blockR ?_ | refine blockX ?_ | refine blockM rfl ?_
  simp [RetOk, RV, RVs, refundR, encCharges_eq]
end Go.Proofs.Ytnmbnihbeggmgaa

set_option maxRecDepth 100000
set_option linter.unusedSimpArgs false
set_option linter.unusedVariables false
namespace Go.Proofs.Ytnmbnihbeggmgaa
open Go Ab Lib
theorem ref29_Refund (l : List Charge) (p i kd : Int) (hl : l.length ≤ 1000000) : ACalls E.P 22 [encCharges l, .int .i64 p, .int .i64 i, .int .i64 kd] (rfR l p i kd) := by
  refine ACalls.intro E_ok Try.func22 rfl rfl Try.ntmps22 Try.results22 (Nat.le_of_ble_eq_true rfl) fun hok base S0 w0 => ?_
  -- region 0
  refine AWp.rseq E_ok [0, 1, 2, 3, 8, 9, 10, 11, 12, 13, 17, 43] fun K hK => ?_
  simp [encCharges_eq]
  repeat refine ⟨by first | omega | assumption | (simp only [maxLen]; omega), ?_⟩
  refine hK _ ?_
  clear hK K
  -- region 1
  refine AWp.rseq E_ok [0, 1, 2, 3, 8, 9, 10, 11, 12, 13, 17, 43] fun K hK => ?_
  simp [encCharges_eq]
  repeat refine ⟨by first | omega | assumption | (simp only [maxLen]; omega), ?_⟩
  refine hK _ ?_
  clear hK K
  -- region 2
  refine AWp.rseq E_ok [0, 1, 2, 3, 8, 9, 10, 11, 12, 13, 17, 43] fun K hK => ?_
  simp [encCharges_eq]
  repeat refine ⟨by first | omega | assumption | (simp only [maxLen]; omega), ?_⟩
  refine hK _ ?_
  clear hK K
  refine AWp.seq ?_
  -- region 3
  refine AWp.rseq E_ok [0, 1, 2, 3, 8, 9, 10, 11, 12, 13, 17, 43] fun K hK => ?_
  simp [encCharges_eq]
  repeat refine ⟨by first | omega | assumption | (simp only [maxLen]; omega), ?_⟩
  refine hK _ ?_
  clear hK K
  refine AWp.block ?_
  refine AWp.range (l := l) (F := rfF p i kd) (tot := rfF p i kd ([], 0) l) (fun k y => match y with | (o, q) => o.length ≤ k) (fun k y => match y with | (o, q) => [(0, T.val (encCharges l)), (1, T.val (.int .i64 p)), (2, T.val (.int .i64 i)), (3, T.val (.int .i64 kd)), (10, T.own true (encCharge z0) (o.map encCharge)), (11, T.val (.int .i64 q)), (12, T.val (.int .i64 k))]) ([], 0) ?_ rfl ?_ ?_
  · simp [Weak, TW, encCharges_eq]
  · first | exact trivial | (simp; omega) | simp
  rintro k ⟨o, q⟩ hk hs hi
  try simp only at hi
  refine AWp.seq ?_
  -- region 4
  refine AWp.rseq E_ok [0, 1, 2, 3, 8, 9, 10, 11, 12, 13, 17, 43] fun K hK => ?_
  simp [encCharges_eq]
  repeat refine ⟨by first | omega | assumption | (simp only [maxLen]; omega), ?_⟩
  refine hK _ ?_
  clear hK K
  refine AWp.cond rfl (fun h17 => ?_) (fun h17 => ?_)
  · try simp at h17
    obtain ⟨x, hx, hx2, hd⟩ := at_indexG (l := l) h17
    rw [hd] at hs
    refine AWp.skip ?_
    repeat first | refine thenN ?_ | refine thenX ?_ | refine thenR ?_ | refine blockN ?_ | refine blockR ?_ | refine blockX ?_ | refine blockM rfl ?_
    refine AWp.seq ?_
    refine AWp.block ?_
    -- region 6
    refine AWp.rseq E_ok [0, 1, 2, 3, 8, 9, 10, 11, 12, 13, 17, 43] fun K hK => ?_
    simp [encCharges_eq, h17, hx, hx2]
    repeat refine ⟨by first | omega | assumption | (simp only [maxLen]; omega), ?_⟩
    refine hK _ ?_
    clear hK K
    -- region 7
    refine AWp.rseq E_ok [0, 1, 2, 3, 8, 9, 10, 11, 12, 13, 17, 43] fun K hK => ?_
    simp [encCharges_eq, h17, hx, hx2]
    repeat refine ⟨by first | omega | assumption | (simp only [maxLen]; omega), ?_⟩
    refine hK _ ?_
    clear hK K
    refine AWp.cond rfl (fun h43 => ?_) (fun h43 => ?_)
    · try simp at h43
      have hc : refP p i kd x = true := by cases hr : refP p i kd x with | true => rfl | false => (exfalso; simp [refP] at hr; simp_all)
      -- region 8
      refine AWp.rend E_ok [0, 1, 2, 3, 8, 9, 10, 11, 12, 13, 17, 43] fun K hK => ?_
      simp [encCharges_eq, h17, hx, hx2, h43]
      repeat refine ⟨by first | omega | assumption | (simp only [maxLen]; omega), ?_⟩
      refine hK _ ?_
      clear hK K
      repeat first | refine thenN ?_ | refine thenX ?_ | refine thenR ?_ | refine blockN ?_ | refine blockR ?_ | refine blockX ?_ | refine blockM rfl ?_
      -- region 5
      refine AWp.rend E_ok [0, 1, 2, 3, 8, 9, 10, 11, 12, 13, 17, 43] fun K hK => ?_
      simp [encCharges_eq, h17, hx, hx2, h43]
      repeat refine ⟨by first | omega | assumption | (simp only [maxLen]; omega), ?_⟩
      refine hK _ ?_
      clear hK K
      repeat first | refine thenN ?_ | refine thenX ?_ | refine thenR ?_ | refine blockN ?_ | refine blockR ?_ | refine blockX ?_ | refine blockM rfl ?_
      have hw : IntKind.i64.wrap ((k : Int) + 1) = (k : Int) + 1 := by rw [wrap_i64] <;> omega
      simp [rfF, hc] at hs
      refine ⟨_, h17, hs, ?_, ?_⟩
      · first | exact trivial | (simp; omega) | simp
      · simp [Weak, TW, hw, encCharges_eq, encCharge]
    · try simp at h43
      have hc : refP p i kd x = false := by cases hr : refP p i kd x with | false => rfl | true => (exfalso; simp [refP] at hr; simp_all)
      -- region 9
      refine AWp.rend E_ok [0, 1, 2, 3, 8, 9, 10, 11, 12, 13, 17, 43] fun K hK => ?_
      simp [encCharges_eq, h17, hx, hx2, h43]
      repeat refine ⟨by first | omega | assumption | (simp only [maxLen]; omega), ?_⟩
      refine hK _ ?_
      clear hK K
      repeat first | refine thenN ?_ | refine thenX ?_ | refine thenR ?_ | refine blockN ?_ | refine blockR ?_ | refine blockX ?_ | refine blockM rfl ?_
      -- region 5
      refine AWp.rend E_ok [0, 1, 2, 3, 8, 9, 10, 11, 12, 13, 17, 43] fun K hK => ?_
      simp [encCharges_eq, h17, hx, hx2, h43]
      repeat refine ⟨by first | omega | assumption | (simp only [maxLen]; omega), ?_⟩
      refine hK _ ?_
      clear hK K
      repeat first | refine thenN ?_ | refine thenX ?_ | refine thenR ?_ | refine blockN ?_ | refine blockR ?_ | refine blockX ?_ | refine blockM rfl ?_
      have hw : IntKind.i64.wrap ((k : Int) + 1) = (k : Int) + 1 := by rw [wrap_i64] <;> omega
      simp [rfF, hc] at hs
      refine ⟨_, h17, hs, ?_, ?_⟩
      · first | exact trivial | (simp; omega) | simp
      · simp [Weak, TW, hw, encCharges_eq, encCharge]
  · try simp at h17
    obtain rfl : k = l.length := by omega
    simp [rfF] at hs
    refine AWp.exit ?_
    repeat first | refine thenN ?_ | refine thenX ?_ | refine thenR ?_ | refine blockN ?_ | refine blockR ?_ | refine blockX ?_ | refine blockM rfl ?_
    -- region 10
    refine AWp.rseq E_ok [0, 1, 2, 3, 8, 9, 10, 11, 12, 13, 17, 43] fun K hK => ?_
    simp [encCharges_eq, h17]
    repeat refine ⟨by first | omega | assumption | (simp only [maxLen]; omega), ?_⟩
    refine hK _ ?_
    clear hK K
    refine AWp.ret ?_
    repeat first | refine thenN ?_ | refine thenX ?_ | refine thenR ?_ | refine blockN ?_ | refine blockR ?_ | refine blockX ?_ | refine blockM rfl ?_
    simp [RetOk, RV, RVs, rfR, ← hs, encCharges_eq]
end Go.Proofs.Ytnmbnihbeggmgaa

set_option maxRecDepth 100000
set_option linter.unusedSimpArgs false
set_option linter.unusedVariables false
namespace Go.Proofs.Ytnmbnihbeggmgaa
open Go Ab Lib
theorem fine_Waive_t (l : List Charge) (i : Int) (h : l.length ≤ 1000000) : ACalls E.P 19 [encCharges l, .int .i64 i] (.tup [encCharges (wO l i), .int .i64 (wX l i), .int .i64 (wE l i)]) := waiveR_tup l i ▸ fine_Waive l i h
theorem ref29_Waive_t (l : List Charge) (i : Int) (h : l.length ≤ 1000000) (hr : rightR l = 0) : ACalls E.P 20 [encCharges l, .int .i64 i] (.tup [encCharges (wO l i), .int .i64 (wX l i), .int .i64 (wE l i)]) := waiveR_tup l i ▸ wvR_eq hr ▸ ref29_Waive l i h
theorem fine_Refund_t (l : List Charge) (p i k : Int) (h : l.length ≤ 1000000) : ACalls E.P 21 [encCharges l, .int .i64 p, .int .i64 i, .int .i64 k] (.tup [encCharges (rfF p i k ([], 0) l).1, .int .i64 (rfF p i k ([], 0) l).2]) := by
  have := fine_Refund l p i k h
  rw [show refundR l p i k = .tup [encCharges (rfF p i k ([], 0) l).1, .int .i64 (rfF p i k ([], 0) l).2] by rw [(rf_rem l [] 0 0).1, (rf_rem l [] 0 0).2]; rfl] at this
  exact this
theorem ref29_Refund_t (l : List Charge) (p i k : Int) (h : l.length ≤ 1000000) : ACalls E.P 22 [encCharges l, .int .i64 p, .int .i64 i, .int .i64 k] (.tup [encCharges (rfF p i k ([], 0) l).1, .int .i64 (rfF p i k ([], 0) l).2]) := ref29_Refund l p i k h

end Go.Proofs.Ytnmbnihbeggmgaa

set_option maxRecDepth 100000
set_option linter.unusedSimpArgs false
set_option linter.unusedVariables false
namespace Go.Proofs.Ytnmbnihbeggmgaa
open Go Ab Lib
theorem law29_FineBalances (l : List Charge) (p o a i : Int) : ACalls E.P 6 [encCharges l, .int .i64 p, .int .i64 o, .int .i64 a, .int .i64 i] (.d (.bool true)) := by
  refine ACalls.intro E_ok Try.func6 rfl rfl Try.ntmps6 Try.results6 (Nat.le_of_ble_eq_true rfl) fun hok base S0 w0 => ?_
  -- region 0
  refine AWp.rseq E_ok [0, 1, 2, 3, 4, 10, 11, 12, 13, 14, 15, 16, 17, 18, 19, 21, 37, 61, 82, 94, 103, 109, 118] fun K hK => ?_
  simp [encCharges_eq]
  repeat refine ⟨by first | omega | assumption | (simp only [maxLen]; omega), ?_⟩
  refine hK _ ?_
  clear hK K
  refine AWp.seq ?_
  -- region 1
  refine AWp.rseq E_ok [0, 1, 2, 3, 4, 10, 11, 12, 13, 14, 15, 16, 17, 18, 19, 21, 37, 61, 82, 94, 103, 109, 118] fun K hK => ?_
  simp [encCharges_eq]
  refine meet.of (law29_alive) ?_
  simp [encCharges_eq]
  repeat refine ⟨by first | omega | assumption | (simp only [maxLen]; omega), ?_⟩
  refine hK _ ?_
  clear hK K
  refine AWp.cond rfl (fun h21 => ?_) (fun h21 => ?_)
  · exact absurd h21 (by simp)
  · try simp at h21
    refine AWp.skip ?_
    repeat first | refine thenN ?_ | refine thenX ?_ | refine thenR ?_ | refine blockN ?_ | refine blockR ?_ | refine blockX ?_ | refine blockM rfl ?_
    refine AWp.seq ?_
    -- region 3
    refine AWp.rseq E_ok [0, 1, 2, 3, 4, 10, 11, 12, 13, 14, 15, 16, 17, 18, 19, 21, 37, 61, 82, 94, 103, 109, 118] fun K hK => ?_
    simp [encCharges_eq]
    refine meet.of (fine_Right l) ?_
    simp [encCharges_eq]
    repeat refine ⟨by first | omega | assumption | (simp only [maxLen]; omega), ?_⟩
    refine hK _ ?_
    clear hK K
    refine AWp.cond rfl (fun h37 => ?_) (fun h37 => ?_)
    · try simp at h37
      -- region 4
      refine AWp.rseq E_ok [0, 1, 2, 3, 4, 10, 11, 12, 13, 14, 15, 16, 17, 18, 19, 21, 37, 61, 82, 94, 103, 109, 118] fun K hK => ?_
      simp [encCharges_eq]
      repeat refine ⟨by first | omega | assumption | (simp only [maxLen]; omega), ?_⟩
      refine hK _ ?_
      clear hK K
      refine AWp.ret ?_
      repeat first | refine thenN ?_ | refine thenX ?_ | refine thenR ?_ | refine blockN ?_ | refine blockR ?_ | refine blockX ?_ | refine blockM rfl ?_
      first | (simp [RetOk, RV]; done) | (simp [RetOk, RV, e2]; done) | (simp [RetOk, RV, ew.2.1, e5]; exact ew.2.2.2)
    · try simp at h37
      have hr : rightR l = 0 := h37.1.1.2
      have hl6 : l.length ≤ 60 := by omega
      obtain ⟨f1, f2, f3⟩ := pay_facts (p := p) hr h37.1.2 h37.2
      obtain ⟨g1, g2, g3, g4, g5, g6, g7, g8⟩ := pay_facts2 (p := p) hr h37.1.2 h37.2
      refine AWp.skip ?_
      repeat first | refine thenN ?_ | refine thenX ?_ | refine thenR ?_ | refine blockN ?_ | refine blockR ?_ | refine blockX ?_ | refine blockM rfl ?_
      -- region 5
      refine AWp.rseq E_ok [0, 1, 2, 3, 4, 10, 11, 12, 13, 14, 15, 16, 17, 18, 19, 21, 37, 61, 82, 94, 103, 109, 118] fun K hK => ?_
      simp [encCharges_eq]
      refine meet.of (fine_Pay_t l p a (by omega)) ?_
      simp [encCharges_eq]
      repeat refine ⟨by first | omega | assumption | (simp only [maxLen]; omega), ?_⟩
      refine hK _ ?_
      clear hK K
      refine AWp.seq ?_
      -- region 6
      refine AWp.rseq E_ok [0, 1, 2, 3, 4, 10, 11, 12, 13, 14, 15, 16, 17, 18, 19, 21, 37, 61, 82, 94, 103, 109, 118] fun K hK => ?_
      simp [encCharges_eq]
      refine meet.of (fine_Right (payO l p a)) ?_
      simp [encCharges_eq]
      repeat refine ⟨by first | omega | assumption | (simp only [maxLen]; omega), ?_⟩
      refine hK _ ?_
      clear hK K
      refine AWp.cond rfl (fun h61 => ?_) (fun h61 => ?_)
      · try simp at h61
        exfalso; simp [f1, g1] at h61; omega
      · try simp at h61
        refine AWp.skip ?_
        repeat first | refine thenN ?_ | refine thenX ?_ | refine thenR ?_ | refine blockN ?_ | refine blockR ?_ | refine blockX ?_ | refine blockM rfl ?_
        refine AWp.seq ?_
        -- region 8
        refine AWp.rseq E_ok [0, 1, 2, 3, 4, 10, 11, 12, 13, 14, 15, 16, 17, 18, 19, 21, 37, 61, 82, 94, 103, 109, 118] fun K hK => ?_
        simp [encCharges_eq]
        refine meet.of (fine_Owed (payO l p a) p) ?_
        simp [encCharges_eq]
        refine meet.of (fine_Owed l p) ?_
        simp [encCharges_eq]
        refine meet.of (fine_Owed (payO l p a) p) ?_
        simp [encCharges_eq]
        repeat refine ⟨by first | omega | assumption | (simp only [maxLen]; omega), ?_⟩
        refine hK _ ?_
        clear hK K
        refine AWp.cond rfl (fun h82 => ?_) (fun h82 => ?_)
        · try simp at h82
          rw [wrap_i64 (n := a - payX l p a) (by omega) (by omega), wrap_i64 (by omega) (by omega)] at h82
          rcases h82 with h | ⟨h, h'⟩ <;> first | exact absurd g4 h | exact absurd (g5 h) h'
        · try simp at h82
          refine AWp.skip ?_
          repeat first | refine thenN ?_ | refine thenX ?_ | refine thenR ?_ | refine blockN ?_ | refine blockR ?_ | refine blockX ?_ | refine blockM rfl ?_
          refine AWp.seq ?_
          -- region 10
          refine AWp.rseq E_ok [0, 1, 2, 3, 4, 10, 11, 12, 13, 14, 15, 16, 17, 18, 19, 21, 37, 61, 82, 94, 103, 109, 118] fun K hK => ?_
          simp [encCharges_eq]
          refine meet.of (fine_Owed (payO l p a) o) ?_
          simp [encCharges_eq]
          refine meet.of (fine_Owed l o) ?_
          simp [encCharges_eq]
          repeat refine ⟨by first | omega | assumption | (simp only [maxLen]; omega), ?_⟩
          refine hK _ ?_
          clear hK K
          refine AWp.cond rfl (fun h94 => ?_) (fun h94 => ?_)
          · try simp at h94
            exact absurd (g6 o h94.1) h94.2
          · try simp at h94
            refine AWp.skip ?_
            repeat first | refine thenN ?_ | refine thenX ?_ | refine thenR ?_ | refine blockN ?_ | refine blockR ?_ | refine blockX ?_ | refine blockM rfl ?_
            -- region 12
            refine AWp.rseq E_ok [0, 1, 2, 3, 4, 10, 11, 12, 13, 14, 15, 16, 17, 18, 19, 21, 37, 61, 82, 94, 103, 109, 118] fun K hK => ?_
            simp [encCharges_eq]
            refine meet.of (fine_Waive_t l i (by omega)) ?_
            simp [encCharges_eq]
            repeat refine ⟨by first | omega | assumption | (simp only [maxLen]; omega), ?_⟩
            refine hK _ ?_
            clear hK K
            refine AWp.seq ?_
            -- region 13
            refine AWp.rseq E_ok [0, 1, 2, 3, 4, 10, 11, 12, 13, 14, 15, 16, 17, 18, 19, 21, 37, 61, 82, 94, 103, 109, 118] fun K hK => ?_
            simp [encCharges_eq]
            repeat refine ⟨by first | omega | assumption | (simp only [maxLen]; omega), ?_⟩
            refine hK _ ?_
            clear hK K
            refine AWp.cond rfl (fun h103 => ?_) (fun h103 => ?_)
            · try simp at h103
              have e2 : wX l i = 0 := by rcases waive_facts (i := i) hr with ⟨_, e⟩ | ⟨e, _⟩; exact e; exact absurd e h103
              -- region 14
              refine AWp.rseq E_ok [0, 1, 2, 3, 4, 10, 11, 12, 13, 14, 15, 16, 17, 18, 19, 21, 37, 61, 82, 94, 103, 109, 118] fun K hK => ?_
              simp [encCharges_eq, h103]
              repeat refine ⟨by first | omega | assumption | (simp only [maxLen]; omega), ?_⟩
              refine hK _ ?_
              clear hK K
              refine AWp.ret ?_
              repeat first | refine thenN ?_ | refine thenX ?_ | refine thenR ?_ | refine blockN ?_ | refine blockR ?_ | refine blockX ?_ | refine blockM rfl ?_
              first | (simp [RetOk, RV]; done) | (simp [RetOk, RV, e2]; done) | (simp [RetOk, RV, ew.2.1, e5]; exact ew.2.2.2)
            · try simp at h103
              have ew := (waive_facts (i := i) hr).resolve_left (fun hh => by have := hh.1; omega)
              refine AWp.skip ?_
              repeat first | refine thenN ?_ | refine thenX ?_ | refine thenR ?_ | refine blockN ?_ | refine blockR ?_ | refine blockX ?_ | refine blockM rfl ?_
              -- region 15
              refine AWp.rseq E_ok [0, 1, 2, 3, 4, 10, 11, 12, 13, 14, 15, 16, 17, 18, 19, 21, 37, 61, 82, 94, 103, 109, 118] fun K hK => ?_
              simp [encCharges_eq, h103]
              repeat refine ⟨by first | omega | assumption | (simp only [maxLen]; omega), ?_⟩
              refine hK _ ?_
              clear hK K
              -- region 16
              refine AWp.rseq E_ok [0, 1, 2, 3, 4, 10, 11, 12, 13, 14, 15, 16, 17, 18, 19, 21, 37, 61, 82, 94, 103, 109, 118] fun K hK => ?_
              simp [encCharges_eq, h103]
              repeat refine ⟨by first | omega | assumption | (simp only [maxLen]; omega), ?_⟩
              refine hK _ ?_
              clear hK K
              refine AWp.seq ?_
              -- region 17
              refine AWp.rseq E_ok [0, 1, 2, 3, 4, 10, 11, 12, 13, 14, 15, 16, 17, 18, 19, 21, 37, 61, 82, 94, 103, 109, 118] fun K hK => ?_
              simp [encCharges_eq, h103]
              repeat refine ⟨by first | omega | assumption | (simp only [maxLen]; omega), ?_⟩
              refine hK _ ?_
              clear hK K
              refine AWp.block ?_
              refine AWp.range (l := l) (F := opF i) (tot := opF i (0, 0) l) (fun k y => match y with | (op, ow) => True) (fun k y => match y with | (op, ow) => [(0, T.val ((encCharge z0).slice (List.map encCharge l))), (1, T.val (D.int IntKind.i64 p)), (2, T.val (D.int IntKind.i64 o)), (3, T.val (D.int IntKind.i64 a)), (4, T.val (D.int IntKind.i64 i)), (10, T.val (D.bool false)), (14, T.val ((encCharge z0).slice (List.map encCharge (wO l i)))), (17, T.val (.int .i64 op)), (18, T.val (.int .i64 ow)), (19, T.val (.int .i64 k))]) (0, 0) ?_ rfl ?_ ?_
              · simp [Weak, TW, encCharges_eq]
              · first | exact trivial | (simp; omega) | simp
              rintro k ⟨op, ow⟩ hk hs hi
              try simp only at hi
              refine AWp.seq ?_
              -- region 18
              refine AWp.rseq E_ok [0, 1, 2, 3, 4, 10, 11, 12, 13, 14, 15, 16, 17, 18, 19, 21, 37, 61, 82, 94, 103, 109, 118] fun K hK => ?_
              simp [encCharges_eq, h103]
              repeat refine ⟨by first | omega | assumption | (simp only [maxLen]; omega), ?_⟩
              refine hK _ ?_
              clear hK K
              refine AWp.cond rfl (fun h109 => ?_) (fun h109 => ?_)
              · try simp at h109
                obtain ⟨x, hx, hx2, hd⟩ := at_indexG (l := l) h109
                rw [hd] at hs
                refine AWp.skip ?_
                repeat first | refine thenN ?_ | refine thenX ?_ | refine thenR ?_ | refine blockN ?_ | refine blockR ?_ | refine blockX ?_ | refine blockM rfl ?_
                refine AWp.seq ?_
                refine AWp.block ?_
                -- region 20
                refine AWp.rseq E_ok [0, 1, 2, 3, 4, 10, 11, 12, 13, 14, 15, 16, 17, 18, 19, 21, 37, 61, 82, 94, 103, 109, 118] fun K hK => ?_
                simp [encCharges_eq, h103, h109, hx, hx2]
                repeat refine ⟨by first | omega | assumption | (simp only [maxLen]; omega), ?_⟩
                refine hK _ ?_
                clear hK K
                refine AWp.cond rfl (fun h118 => ?_) (fun h118 => ?_)
                · try simp at h118
                  -- region 21
                  refine AWp.rseqQ E_ok mixed [0, 1, 2, 3, 4, 10, 11, 12, 13, 14, 15, 16, 17, 18, 19, 21, 37, 61, 82, 94, 103, 109, 118] (by kernel_rfl) fun K hK => ?_
                  simp [encCharges_eq, h103, h109, hx, hx2, h118]
                  repeat refine ⟨by first | omega | assumption | (simp only [maxLen]; omega), ?_⟩
                  refine hK _ ?_
                  clear hK K
                  -- region 22
                  refine AWp.rend E_ok [0, 1, 2, 3, 4, 10, 11, 12, 13, 14, 15, 16, 17, 18, 19, 21, 37, 61, 82, 94, 103, 109, 118] fun K hK => ?_
                  simp [encCharges_eq, h103, h109, hx, hx2, h118]
                  repeat refine ⟨by first | omega | assumption | (simp only [maxLen]; omega), ?_⟩
                  refine hK _ ?_
                  clear hK K
                  repeat first | refine thenN ?_ | refine thenX ?_ | refine thenR ?_ | refine blockN ?_ | refine blockR ?_ | refine blockX ?_ | refine blockM rfl ?_
                  -- region 19
                  refine AWp.rend E_ok [0, 1, 2, 3, 4, 10, 11, 12, 13, 14, 15, 16, 17, 18, 19, 21, 37, 61, 82, 94, 103, 109, 118] fun K hK => ?_
                  simp [encCharges_eq, h103, h109, hx, hx2, h118]
                  repeat refine ⟨by first | omega | assumption | (simp only [maxLen]; omega), ?_⟩
                  refine hK _ ?_
                  clear hK K
                  repeat first | refine thenN ?_ | refine thenX ?_ | refine thenR ?_ | refine blockN ?_ | refine blockR ?_ | refine blockX ?_ | refine blockM rfl ?_
                  have hw : IntKind.i64.wrap ((k : Int) + 1) = (k : Int) + 1 := by rw [wrap_i64] <;> omega
                  simp [opF, h103, h118] at hs
                  refine ⟨_, h109, hs, ?_, ?_⟩
                  · first | exact trivial | (simp; omega) | simp
                  · simp [Weak, TW, hw, encCharges_eq]
                · try simp at h118
                  refine AWp.skip ?_
                  repeat first | refine thenN ?_ | refine thenX ?_ | refine thenR ?_ | refine blockN ?_ | refine blockR ?_ | refine blockX ?_ | refine blockM rfl ?_
                  -- region 19
                  refine AWp.rend E_ok [0, 1, 2, 3, 4, 10, 11, 12, 13, 14, 15, 16, 17, 18, 19, 21, 37, 61, 82, 94, 103, 109, 118] fun K hK => ?_
                  simp [encCharges_eq, h103, h109, hx, hx2, h118]
                  repeat refine ⟨by first | omega | assumption | (simp only [maxLen]; omega), ?_⟩
                  refine hK _ ?_
                  clear hK K
                  repeat first | refine thenN ?_ | refine thenX ?_ | refine thenR ?_ | refine blockN ?_ | refine blockR ?_ | refine blockX ?_ | refine blockM rfl ?_
                  have hw : IntKind.i64.wrap ((k : Int) + 1) = (k : Int) + 1 := by rw [wrap_i64] <;> omega
                  simp [opF, h103, h118] at hs
                  refine ⟨_, h109, hs, ?_, ?_⟩
                  · first | exact trivial | (simp; omega) | simp
                  · simp [Weak, TW, hw, encCharges_eq]
              · try simp at h109
                obtain rfl : k = l.length := by omega
                simp [opF] at hs
                refine AWp.exit ?_
                repeat first | refine thenN ?_ | refine thenX ?_ | refine thenR ?_ | refine blockN ?_ | refine blockR ?_ | refine blockX ?_ | refine blockM rfl ?_
                -- region 23
                obtain ⟨rfl, rfl⟩ : op = (opF i (0, 0) l).1 ∧ ow = (opF i (0, 0) l).2 := by rw [← hs]; exact ⟨rfl, rfl⟩
                have e5 : IntKind.i64.wrap (((wO l i).length : Int) + 1) = (l.length : Int) := by rw [wrap_i64] <;> omega
                refine AWp.rseq E_ok [0, 1, 2, 3, 4, 10, 11, 12, 13, 14, 15, 16, 17, 18, 19, 21, 37, 61, 82, 94, 103, 109, 118] fun K hK => ?_
                simp [encCharges_eq, h103, h109]
                refine meet.of (fine_Right (wO l i)) ?_
                simp [encCharges_eq, h103, h109]
                refine meet.of (fine_Owed (wO l i) _) ?_
                simp [encCharges_eq, h103, h109]
                refine meet.of (fine_Owed l _) ?_
                simp [encCharges_eq, h103, h109]
                repeat refine ⟨by first | omega | assumption | (simp only [maxLen]; omega), ?_⟩
                refine hK _ ?_
                clear hK K
                refine AWp.ret ?_
                repeat first | refine thenN ?_ | refine thenX ?_ | refine thenR ?_ | refine blockN ?_ | refine blockR ?_ | refine blockX ?_ | refine blockM rfl ?_
                first | (simp [RetOk, RV]; done) | (simp [RetOk, RV, e2]; done) | (simp [RetOk, RV, ew.2.1, e5]; exact ew.2.2.2)
end Go.Proofs.Ytnmbnihbeggmgaa

set_option maxRecDepth 100000
set_option linter.unusedSimpArgs false
set_option linter.unusedVariables false
namespace Go.Proofs.Ytnmbnihbeggmgaa
open Go Ab Lib
theorem open_int : Opens Try.prog 3 (fun n => [D.int .i64 n]) (fun n => IntKind.min .i64 ≤ n ∧ n ≤ IntKind.max .i64) := Opens.int Try.underlying3
theorem openV_int : OpensV Try.prog 3 (fun n => D.int .i64 n) (fun n => IntKind.min .i64 ≤ n ∧ n ≤ IntKind.max .i64) := Opens.one open_int (cells_int' Try.underlying3)
theorem open_api_Errno : Opens Try.prog 32 (fun n => [D.int .i64 n]) (fun n => IntKind.min .i64 ≤ n ∧ n ≤ IntKind.max .i64) := Opens.int Try.underlying32
theorem openV_api_Errno : OpensV Try.prog 32 (fun n => D.int .i64 n) (fun n => IntKind.min .i64 ≤ n ∧ n ≤ IntKind.max .i64) := Opens.one open_api_Errno (cells_int' Try.underlying32)
theorem open_uint8 : Opens Try.prog 5 (fun n => [D.int .u8 n]) (fun n => IntKind.min .u8 ≤ n ∧ n ≤ IntKind.max .u8) := Opens.int Try.underlying5
theorem openV_uint8 : OpensV Try.prog 5 (fun n => D.int .u8 n) (fun n => IntKind.min .u8 ≤ n ∧ n ≤ IntKind.max .u8) := Opens.one open_uint8 (cells_int' Try.underlying5)
theorem open_bool : Opens Try.prog 4 (fun b => [D.bool b]) (fun _ => True) := Opens.bool Try.underlying4
theorem openV_bool : OpensV Try.prog 4 (fun b => D.bool b) (fun _ => True) := Opens.one open_bool (cells_bool' Try.underlying4)
theorem open_string : Opens Try.prog 9 (fun s => [D.str s]) (fun s => s.length ≤ Go.maxLen) := Opens.str Try.underlying9
theorem openV_string : OpensV Try.prog 9 (fun s => D.str s) (fun s => s.length ≤ Go.maxLen) := Opens.one open_string (cells_str' Try.underlying9)
theorem open_s_int : Opens Try.prog 24 (fun l : List Int => [encInts l]) (fun l => l.length ≤ Go.maxLen) :=
  (Opens.slice Try.underlying24 (by kernel_rfl) (by decide) open_int (D.int .i64) (fun _ => rfl) (.int .i64 0) rfl).map id (fun _ => rfl) (fun _ h => h.2)
theorem openV_s_int : OpensV Try.prog 24 encInts (fun l => l.length ≤ Go.maxLen) := Opens.one open_s_int (cells_slice' Try.underlying24)
theorem open_api_Charge : Opens Try.prog 44 (fun c : Charge => (encCharge c).cells) (fun _ => True) :=
  (Opens.struct Try.underlying44 (OpensF.cons (n := 1) rfl (by kernel_rfl) open_int (fun _ => rfl) (OpensF.cons (n := 1) rfl (by kernel_rfl) open_int (fun _ => rfl) (OpensF.cons (n := 1) rfl (by kernel_rfl) open_int (fun _ => rfl) (OpensF.cons (n := 1) rfl (by kernel_rfl) open_int (fun _ => rfl) (OpensF.cons (n := 1) rfl (by kernel_rfl) open_int (fun _ => rfl) (OpensF.cons (n := 1) rfl (by kernel_rfl) open_int (fun _ => rfl) (OpensF.cons (n := 1) rfl (by kernel_rfl) open_int (fun _ => rfl) OpensF.nil))))))) (fun _ => by kernel_rfl)).map (fun p => (⟨p.1, p.2.1, p.2.2.1, p.2.2.2.1, p.2.2.2.2.1, p.2.2.2.2.2.1, p.2.2.2.2.2.2.1⟩ : Charge)) (fun _ => rfl) (fun _ _ => trivial)
theorem openV_api_Charge : OpensV Try.prog 44 encCharge (fun _ => True) := Opens.agg Try.underlying44 open_api_Charge
theorem open_s_api_Charge : Opens Try.prog 31 (fun l : List Charge => [encCharges l]) (fun l => l.length ≤ Go.maxLen) :=
  (Opens.slice Try.underlying31 (by kernel_rfl) (by decide) open_api_Charge encCharge (fun _ => rfl) (encCharge z0) rfl).map id (fun _ => rfl) (fun _ h => h.2)
theorem openV_s_api_Charge : OpensV Try.prog 31 encCharges (fun l => l.length ≤ Go.maxLen) := Opens.one open_s_api_Charge (cells_slice' Try.underlying31)
theorem open_api_Rule : Opens Try.prog 23 (fun c : Rule => (encRule c).cells) (fun _ => True) :=
  (Opens.struct Try.underlying23 (OpensF.cons (n := 1) rfl (by kernel_rfl) open_int (fun _ => rfl) (OpensF.cons (n := 1) rfl (by kernel_rfl) open_int (fun _ => rfl) (OpensF.cons (n := 1) rfl (by kernel_rfl) open_int (fun _ => rfl) (OpensF.cons (n := 1) rfl (by kernel_rfl) open_int (fun _ => rfl) (OpensF.cons (n := 1) rfl (by kernel_rfl) open_int (fun _ => rfl) (OpensF.cons (n := 1) rfl (by kernel_rfl) open_int (fun _ => rfl) (OpensF.cons (n := 1) rfl (by kernel_rfl) open_int (fun _ => rfl) (OpensF.cons (n := 1) rfl (by kernel_rfl) open_int (fun _ => rfl) (OpensF.cons (n := 1) rfl (by kernel_rfl) open_int (fun _ => rfl) (OpensF.cons (n := 1) rfl (by kernel_rfl) open_int (fun _ => rfl) (OpensF.cons (n := 1) rfl (by kernel_rfl) open_int (fun _ => rfl) (OpensF.cons (n := 1) rfl (by kernel_rfl) open_int (fun _ => rfl) (OpensF.cons (n := 1) rfl (by kernel_rfl) open_int (fun _ => rfl) OpensF.nil))))))))))))) (fun _ => by kernel_rfl)).map (fun p => (⟨p.1, p.2.1, p.2.2.1, p.2.2.2.1, p.2.2.2.2.1, p.2.2.2.2.2.1, p.2.2.2.2.2.2.1, p.2.2.2.2.2.2.2.1, p.2.2.2.2.2.2.2.2.1, p.2.2.2.2.2.2.2.2.2.1, p.2.2.2.2.2.2.2.2.2.2.1, p.2.2.2.2.2.2.2.2.2.2.2.1, p.2.2.2.2.2.2.2.2.2.2.2.2.1⟩ : Rule)) (fun _ => rfl) (fun _ _ => trivial)
theorem openV_api_Rule : OpensV Try.prog 23 encRule (fun _ => True) := Opens.agg Try.underlying23 open_api_Rule
theorem open_api_Calendar : Opens Try.prog 26 (fun c : Cal => (encCal c).cells) (fun _ => True) :=
  (Opens.struct Try.underlying26 (OpensF.cons (n := 1) rfl (by kernel_rfl) open_int (fun _ => rfl) (OpensF.cons (n := 1) rfl (by kernel_rfl) open_s_int (fun _ => rfl) OpensF.nil)) (fun _ => by kernel_rfl)).map (fun p => (⟨p.1, p.2.1⟩ : Cal)) (fun _ => rfl) (fun _ _ => trivial)
theorem openV_api_Calendar : OpensV Try.prog 26 encCal (fun _ => True) := Opens.agg Try.underlying26 open_api_Calendar

end Go.Proofs.Ytnmbnihbeggmgaa
