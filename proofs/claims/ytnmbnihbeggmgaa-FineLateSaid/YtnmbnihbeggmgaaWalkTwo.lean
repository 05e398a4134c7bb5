/-
  What the functions compute that the statement reaches: contracts, and the plain laws between them. Conditions stand at each theorem.
-/
import Derived.Test.YtnmbnihbeggmgaaWalkOne
set_option linter.unusedVariables false
set_option linter.unusedSimpArgs false
set_option maxRecDepth 100000
set_option linter.unusedSimpArgs false
set_option linter.unusedVariables false
namespace Go.Proofs.Ytnmbnihbeggmgaa
open Go Ab Lib
theorem fine_Pay (l : List Charge) (p a : Int) (hl : l.length ≤ 1000000) : ACalls E.P 14 [encCharges l, .int .i64 p, .int .i64 a] (payR l p a) := by
  refine ACalls.intro E_ok Try.func14 rfl rfl Try.ntmps14 Try.results14 (Nat.le_of_ble_eq_true rfl) fun hok base S0 w0 => ?_
  -- region 0
  refine AWp.rseq E_ok [0, 1, 2, 6, 7, 8, 9, 10, 12, 13, 19, 21, 22, 23, 24, 30, 50] fun K hK => ?_
  simp [encCharges_eq]
  repeat refine ⟨by first | omega | assumption | (simp only [maxLen]; omega), ?_⟩
  refine hK _ ?_
  clear hK K
  refine AWp.seq ?_
  -- region 1
  refine AWp.rseq E_ok [0, 1, 2, 6, 7, 8, 9, 10, 12, 13, 19, 21, 22, 23, 24, 30, 50] fun K hK => ?_
  simp [encCharges_eq]
  repeat refine ⟨by first | omega | assumption | (simp only [maxLen]; omega), ?_⟩
  refine hK _ ?_
  clear hK K
  refine AWp.cond rfl (fun h19 => ?_) (fun h19 => ?_)
  · try simp at h19
    -- region 2
    refine AWp.rseq E_ok [0, 1, 2, 6, 7, 8, 9, 10, 12, 13, 19, 21, 22, 23, 24, 30, 50] fun K hK => ?_
    simp [encCharges_eq, h19]
    repeat refine ⟨by first | omega | assumption | (simp only [maxLen]; omega), ?_⟩
    refine hK _ ?_
    clear hK K
    refine AWp.ret ?_
    repeat first | refine thenN ?_ | refine thenX ?_ | refine thenR ?_ | refine blockN ?_ | refine blockR ?_ | refine blockX ?_ | refine blockM rfl ?_
    first | (rw [payR_bad h19]; simp [RetOk, RV, RVs, encCharges_eq]; done) | (rw [payR_good h19]; simp [RetOk, RV, RVs, ← hs, encCharges_eq])
  · try simp at h19
    refine AWp.skip ?_
    repeat first | refine thenN ?_ | refine thenX ?_ | refine thenR ?_ | refine blockN ?_ | refine blockR ?_ | refine blockX ?_ | refine blockM rfl ?_
    -- region 3
    refine AWp.rseq E_ok [0, 1, 2, 6, 7, 8, 9, 10, 12, 13, 19, 21, 22, 23, 24, 30, 50] fun K hK => ?_
    simp [encCharges_eq, h19]
    repeat refine ⟨by first | omega | assumption | (simp only [maxLen]; omega), ?_⟩
    refine hK _ ?_
    clear hK K
    -- region 4
    refine AWp.rseq E_ok [0, 1, 2, 6, 7, 8, 9, 10, 12, 13, 19, 21, 22, 23, 24, 30, 50] fun K hK => ?_
    simp [encCharges_eq, h19]
    repeat refine ⟨by first | omega | assumption | (simp only [maxLen]; omega), ?_⟩
    refine hK _ ?_
    clear hK K
    refine AWp.seq ?_
    -- region 5
    refine AWp.rseq E_ok [0, 1, 2, 6, 7, 8, 9, 10, 12, 13, 19, 21, 22, 23, 24, 30, 50] fun K hK => ?_
    simp [encCharges_eq, h19]
    repeat refine ⟨by first | omega | assumption | (simp only [maxLen]; omega), ?_⟩
    refine hK _ ?_
    clear hK K
    refine AWp.block ?_
    refine AWp.range (l := l) (F := payF p) (tot := payF p (a, []) l) (fun k y => match y with | (r, o) => o.length ≤ k) (fun k y => match y with | (r, o) => [(0, T.val (encCharges l)), (1, T.val (.int .i64 p)), (9, T.own true (encCharge z0) (o.map encCharge)), (10, T.val (.int .i64 r)), (21, T.val (encCharges l)), (22, T.val (.int .i64 l.length)), (23, T.val (.int .i64 k))]) (a, []) ?_ rfl ?_ ?_
    · simp [Weak, TW, encCharges_eq]
    · first | exact trivial | (simp; omega) | simp
    rintro k ⟨r, o⟩ hk hs hi
    try simp only at hi
    -- region 6
    refine AWp.rseq E_ok [0, 1, 2, 6, 7, 8, 9, 10, 12, 13, 19, 21, 22, 23, 24, 30, 50] fun K hK => ?_
    simp [encCharges_eq, h19]
    repeat refine ⟨by first | omega | assumption | (simp only [maxLen]; omega), ?_⟩
    refine hK _ ?_
    clear hK K
    refine AWp.seq ?_
    refine AWp.cond rfl (fun h24 => ?_) (fun h24 => ?_)
    · try simp at h24
      obtain ⟨x, hx, hx2, hd⟩ := at_indexG (l := l) h24
      rw [hd] at hs
      refine AWp.skip ?_
      repeat first | refine thenN ?_ | refine thenX ?_ | refine thenR ?_ | refine blockN ?_ | refine blockR ?_ | refine blockX ?_ | refine blockM rfl ?_
      refine AWp.seq ?_
      refine AWp.block ?_
      -- region 7
      refine AWp.rseq E_ok [0, 1, 2, 6, 7, 8, 9, 10, 12, 13, 19, 21, 22, 23, 24, 30, 50] fun K hK => ?_
      simp [encCharges_eq, h19, h24, hx, hx2]
      repeat refine ⟨by first | omega | assumption | (simp only [maxLen]; omega), ?_⟩
      refine hK _ ?_
      clear hK K
      refine AWp.seq ?_
      -- region 8
      refine AWp.rseq E_ok [0, 1, 2, 6, 7, 8, 9, 10, 12, 13, 19, 21, 22, 23, 24, 30, 50] fun K hK => ?_
      simp [encCharges_eq, h19, h24, hx, hx2]
      repeat refine ⟨by first | omega | assumption | (simp only [maxLen]; omega), ?_⟩
      refine hK _ ?_
      clear hK K
      refine AWp.cond rfl (fun h30 => ?_) (fun h30 => ?_)
      · try simp at h30
        try rw [← Int.not_lt] at h30
        -- region 9
        refine AWp.rseq E_ok [0, 1, 2, 6, 7, 8, 9, 10, 12, 13, 19, 21, 22, 23, 24, 30, 50] fun K hK => ?_
        simp [encCharges_eq, h19, h24, hx, hx2, h30]
        repeat refine ⟨by first | omega | assumption | (simp only [maxLen]; omega), ?_⟩
        refine hK _ ?_
        clear hK K
        -- region 10
        refine AWp.rseq E_ok [0, 1, 2, 6, 7, 8, 9, 10, 12, 13, 19, 21, 22, 23, 24, 30, 50] fun K hK => ?_
        simp [encCharges_eq, h19, h24, hx, hx2, h30]
        repeat refine ⟨by first | omega | assumption | (simp only [maxLen]; omega), ?_⟩
        refine hK _ ?_
        clear hK K
        -- region 11
        refine AWp.rend E_ok [0, 1, 2, 6, 7, 8, 9, 10, 12, 13, 19, 21, 22, 23, 24, 30, 50] fun K hK => ?_
        simp [encCharges_eq, h19, h24, hx, hx2, h30]
        repeat refine ⟨by first | omega | assumption | (simp only [maxLen]; omega), ?_⟩
        refine hK _ ?_
        clear hK K
        repeat first | refine thenN ?_ | refine thenX ?_ | refine thenR ?_ | refine blockN ?_ | refine blockR ?_ | refine blockX ?_ | refine blockM rfl ?_
        -- region 12
        refine AWp.rseq E_ok [0, 1, 2, 6, 7, 8, 9, 10, 12, 13, 19, 21, 22, 23, 24, 30, 50] fun K hK => ?_
        simp [encCharges_eq, h19, h24, hx, hx2, h30]
        repeat refine ⟨by first | omega | assumption | (simp only [maxLen]; omega), ?_⟩
        refine hK _ ?_
        clear hK K
        refine AWp.cond rfl (fun h50 => ?_) (fun h50 => ?_)
        · try simp at h50
          try rw [← Int.not_lt] at h50
          -- region 13
          refine AWp.rend E_ok [0, 1, 2, 6, 7, 8, 9, 10, 12, 13, 19, 21, 22, 23, 24, 30, 50] fun K hK => ?_
          simp [encCharges_eq, h19, h24, hx, hx2, h30, h50]
          repeat refine ⟨by first | omega | assumption | (simp only [maxLen]; omega), ?_⟩
          refine hK _ ?_
          clear hK K
          repeat first | refine thenN ?_ | refine thenX ?_ | refine thenR ?_ | refine blockN ?_ | refine blockR ?_ | refine blockX ?_ | refine blockM rfl ?_
          -- region 14
          refine AWp.rend E_ok [0, 1, 2, 6, 7, 8, 9, 10, 12, 13, 19, 21, 22, 23, 24, 30, 50] fun K hK => ?_
          simp [encCharges_eq, h19, h24, hx, hx2, h30, h50]
          repeat refine ⟨by first | omega | assumption | (simp only [maxLen]; omega), ?_⟩
          refine hK _ ?_
          clear hK K
          repeat first | refine thenN ?_ | refine thenX ?_ | refine thenR ?_ | refine blockN ?_ | refine blockR ?_ | refine blockX ?_ | refine blockM rfl ?_
          have hw : IntKind.i64.wrap ((k : Int) + 1) = (k : Int) + 1 := by rw [wrap_i64] <;> omega
          simp [payF, h19, h30, h50, payStep, encCharge] at hs
          refine ⟨_, h24, hs, ?_, ?_⟩
          · first | exact trivial | (simp; omega) | simp
          · simp [Weak, TW, hw, encCharges_eq, payStep, encCharge]
        · try simp at h50
          try rw [← Int.not_lt] at h50
          refine AWp.skip ?_
          repeat first | refine thenN ?_ | refine thenX ?_ | refine thenR ?_ | refine blockN ?_ | refine blockR ?_ | refine blockX ?_ | refine blockM rfl ?_
          -- region 14
          refine AWp.rend E_ok [0, 1, 2, 6, 7, 8, 9, 10, 12, 13, 19, 21, 22, 23, 24, 30, 50] fun K hK => ?_
          simp [encCharges_eq, h19, h24, hx, hx2, h30, h50]
          repeat refine ⟨by first | omega | assumption | (simp only [maxLen]; omega), ?_⟩
          refine hK _ ?_
          clear hK K
          repeat first | refine thenN ?_ | refine thenX ?_ | refine thenR ?_ | refine blockN ?_ | refine blockR ?_ | refine blockX ?_ | refine blockM rfl ?_
          have hw : IntKind.i64.wrap ((k : Int) + 1) = (k : Int) + 1 := by rw [wrap_i64] <;> omega
          simp [payF, h19, h30, h50, payStep, encCharge] at hs
          refine ⟨_, h24, hs, ?_, ?_⟩
          · first | exact trivial | (simp; omega) | simp
          · simp [Weak, TW, hw, encCharges_eq, payStep, encCharge]
      · try simp at h30
        try rw [← Int.not_lt] at h30
        refine AWp.skip ?_
        repeat first | refine thenN ?_ | refine thenX ?_ | refine thenR ?_ | refine blockN ?_ | refine blockR ?_ | refine blockX ?_ | refine blockM rfl ?_
        -- region 12
        refine AWp.rseq E_ok [0, 1, 2, 6, 7, 8, 9, 10, 12, 13, 19, 21, 22, 23, 24, 30, 50] fun K hK => ?_
        simp [encCharges_eq, h19, h24, hx, hx2, h30]
        repeat refine ⟨by first | omega | assumption | (simp only [maxLen]; omega), ?_⟩
        refine hK _ ?_
        clear hK K
        refine AWp.cond rfl (fun h50 => ?_) (fun h50 => ?_)
        · try simp at h50
          try rw [← Int.not_lt] at h50
          -- region 13
          refine AWp.rend E_ok [0, 1, 2, 6, 7, 8, 9, 10, 12, 13, 19, 21, 22, 23, 24, 30, 50] fun K hK => ?_
          simp [encCharges_eq, h19, h24, hx, hx2, h30, h50]
          repeat refine ⟨by first | omega | assumption | (simp only [maxLen]; omega), ?_⟩
          refine hK _ ?_
          clear hK K
          repeat first | refine thenN ?_ | refine thenX ?_ | refine thenR ?_ | refine blockN ?_ | refine blockR ?_ | refine blockX ?_ | refine blockM rfl ?_
          -- region 14
          refine AWp.rend E_ok [0, 1, 2, 6, 7, 8, 9, 10, 12, 13, 19, 21, 22, 23, 24, 30, 50] fun K hK => ?_
          simp [encCharges_eq, h19, h24, hx, hx2, h30, h50]
          repeat refine ⟨by first | omega | assumption | (simp only [maxLen]; omega), ?_⟩
          refine hK _ ?_
          clear hK K
          repeat first | refine thenN ?_ | refine thenX ?_ | refine thenR ?_ | refine blockN ?_ | refine blockR ?_ | refine blockX ?_ | refine blockM rfl ?_
          have hw : IntKind.i64.wrap ((k : Int) + 1) = (k : Int) + 1 := by rw [wrap_i64] <;> omega
          simp [payF, h19, h30, h50, payStep, encCharge] at hs
          refine ⟨_, h24, hs, ?_, ?_⟩
          · first | exact trivial | (simp; omega) | simp
          · simp [Weak, TW, hw, encCharges_eq, payStep, encCharge]
        · try simp at h50
          try rw [← Int.not_lt] at h50
          refine AWp.skip ?_
          repeat first | refine thenN ?_ | refine thenX ?_ | refine thenR ?_ | refine blockN ?_ | refine blockR ?_ | refine blockX ?_ | refine blockM rfl ?_
          -- region 14
          refine AWp.rend E_ok [0, 1, 2, 6, 7, 8, 9, 10, 12, 13, 19, 21, 22, 23, 24, 30, 50] fun K hK => ?_
          simp [encCharges_eq, h19, h24, hx, hx2, h30, h50]
          repeat refine ⟨by first | omega | assumption | (simp only [maxLen]; omega), ?_⟩
          refine hK _ ?_
          clear hK K
          repeat first | refine thenN ?_ | refine thenX ?_ | refine thenR ?_ | refine blockN ?_ | refine blockR ?_ | refine blockX ?_ | refine blockM rfl ?_
          have hw : IntKind.i64.wrap ((k : Int) + 1) = (k : Int) + 1 := by rw [wrap_i64] <;> omega
          simp [payF, h19, h30, h50, payStep, encCharge] at hs
          refine ⟨_, h24, hs, ?_, ?_⟩
          · first | exact trivial | (simp; omega) | simp
          · simp [Weak, TW, hw, encCharges_eq, payStep, encCharge]
    · try simp at h24
      obtain rfl : k = l.length := by omega
      simp [payF] at hs
      refine AWp.exit ?_
      repeat first | refine thenN ?_ | refine thenX ?_ | refine thenR ?_ | refine blockN ?_ | refine blockR ?_ | refine blockX ?_ | refine blockM rfl ?_
      -- region 15
      refine AWp.rseq E_ok [0, 1, 2, 6, 7, 8, 9, 10, 12, 13, 19, 21, 22, 23, 24, 30, 50] fun K hK => ?_
      simp [encCharges_eq, h19, h24]
      repeat refine ⟨by first | omega | assumption | (simp only [maxLen]; omega), ?_⟩
      refine hK _ ?_
      clear hK K
      refine AWp.ret ?_
      repeat first | refine thenN ?_ | refine thenX ?_ | refine thenR ?_ | refine blockN ?_ | refine blockR ?_ | refine blockX ?_ | refine blockM rfl ?_
      first | (rw [payR_bad h19]; simp [RetOk, RV, RVs, encCharges_eq]; done) | (rw [payR_good h19]; simp [RetOk, RV, RVs, ← hs, encCharges_eq])
end Go.Proofs.Ytnmbnihbeggmgaa

set_option maxRecDepth 100000
set_option linter.unusedSimpArgs false
set_option linter.unusedVariables false
namespace Go.Proofs.Ytnmbnihbeggmgaa
open Go Ab Lib
theorem fine_Owed (l : List Charge) (p : Int) : ACalls E.P 16 [encCharges l, .int .i64 p] (.d (.int .i64 (owedF p 0 l))) := by
  refine ACalls.intro E_ok Try.func16 rfl rfl Try.ntmps16 Try.results16 (Nat.le_of_ble_eq_true rfl) fun hok base S0 w0 => ?_
  have hl : l.length ≤ 9223372036854775807 := by have := (Ok_slice (hok (encCharges l) (by simp))).1; simpa using this
  -- region 0
  refine AWp.rseq E_ok [0, 1, 4, 5, 7, 8, 9, 10, 11, 17] fun K hK => ?_
  simp [encCharges_eq]
  repeat refine ⟨by first | omega | assumption | (simp only [maxLen]; omega), ?_⟩
  refine hK _ ?_
  clear hK K
  -- region 1
  refine AWp.rseq E_ok [0, 1, 4, 5, 7, 8, 9, 10, 11, 17] fun K hK => ?_
  simp [encCharges_eq]
  repeat refine ⟨by first | omega | assumption | (simp only [maxLen]; omega), ?_⟩
  refine hK _ ?_
  clear hK K
  refine AWp.seq ?_
  -- region 2
  refine AWp.rseq E_ok [0, 1, 4, 5, 7, 8, 9, 10, 11, 17] fun K hK => ?_
  simp [encCharges_eq]
  repeat refine ⟨by first | omega | assumption | (simp only [maxLen]; omega), ?_⟩
  refine hK _ ?_
  clear hK K
  refine AWp.block ?_
  refine AWp.range (l := l) (F := owedF p) (tot := owedF p 0 l) (fun k y => match y with | s => True) (fun k y => match y with | s => [(0, T.val (encCharges l)), (1, T.val (.int .i64 p)), (5, T.val (.int .i64 s)), (8, T.val (encCharges l)), (9, T.val (.int .i64 l.length)), (10, T.val (.int .i64 k))]) (0) ?_ rfl ?_ ?_
  · simp [Weak, TW, encCharges_eq]
  · first | exact trivial | (simp; omega) | simp
  rintro k s hk hs hi
  try simp only at hi
  -- region 3
  refine AWp.rseq E_ok [0, 1, 4, 5, 7, 8, 9, 10, 11, 17] fun K hK => ?_
  simp [encCharges_eq]
  repeat refine ⟨by first | omega | assumption | (simp only [maxLen]; omega), ?_⟩
  refine hK _ ?_
  clear hK K
  refine AWp.seq ?_
  refine AWp.cond rfl (fun h11 => ?_) (fun h11 => ?_)
  · try simp at h11
    obtain ⟨x, hx, hx2, hd⟩ := at_indexG (l := l) h11
    rw [hd] at hs
    refine AWp.skip ?_
    repeat first | refine thenN ?_ | refine thenX ?_ | refine thenR ?_ | refine blockN ?_ | refine blockR ?_ | refine blockX ?_ | refine blockM rfl ?_
    refine AWp.seq ?_
    refine AWp.block ?_
    -- region 4
    refine AWp.rseq E_ok [0, 1, 4, 5, 7, 8, 9, 10, 11, 17] fun K hK => ?_
    simp [encCharges_eq, h11, hx, hx2]
    repeat refine ⟨by first | omega | assumption | (simp only [maxLen]; omega), ?_⟩
    refine hK _ ?_
    clear hK K
    -- region 5
    refine AWp.rseq E_ok [0, 1, 4, 5, 7, 8, 9, 10, 11, 17] fun K hK => ?_
    simp [encCharges_eq, h11, hx, hx2]
    repeat refine ⟨by first | omega | assumption | (simp only [maxLen]; omega), ?_⟩
    refine hK _ ?_
    clear hK K
    refine AWp.cond rfl (fun h17 => ?_) (fun h17 => ?_)
    · try simp at h17
      -- region 6
      refine AWp.rend E_ok [0, 1, 4, 5, 7, 8, 9, 10, 11, 17] fun K hK => ?_
      simp [encCharges_eq, h11, hx, hx2, h17]
      repeat refine ⟨by first | omega | assumption | (simp only [maxLen]; omega), ?_⟩
      refine hK _ ?_
      clear hK K
      repeat first | refine thenN ?_ | refine thenX ?_ | refine thenR ?_ | refine blockN ?_ | refine blockR ?_ | refine blockX ?_ | refine blockM rfl ?_
      -- region 7
      refine AWp.rend E_ok [0, 1, 4, 5, 7, 8, 9, 10, 11, 17] fun K hK => ?_
      simp [encCharges_eq, h11, hx, hx2, h17]
      repeat refine ⟨by first | omega | assumption | (simp only [maxLen]; omega), ?_⟩
      refine hK _ ?_
      clear hK K
      repeat first | refine thenN ?_ | refine thenX ?_ | refine thenR ?_ | refine blockN ?_ | refine blockR ?_ | refine blockX ?_ | refine blockM rfl ?_
      have hw : IntKind.i64.wrap ((k : Int) + 1) = (k : Int) + 1 := by rw [wrap_i64] <;> omega
      simp [owedF, h17] at hs
      refine ⟨_, h11, hs, ?_, ?_⟩
      · first | exact trivial | (simp; omega) | simp
      · simp [Weak, TW, hw, encCharges_eq]
    · try simp at h17
      refine AWp.skip ?_
      repeat first | refine thenN ?_ | refine thenX ?_ | refine thenR ?_ | refine blockN ?_ | refine blockR ?_ | refine blockX ?_ | refine blockM rfl ?_
      -- region 7
      refine AWp.rend E_ok [0, 1, 4, 5, 7, 8, 9, 10, 11, 17] fun K hK => ?_
      simp [encCharges_eq, h11, hx, hx2, h17]
      repeat refine ⟨by first | omega | assumption | (simp only [maxLen]; omega), ?_⟩
      refine hK _ ?_
      clear hK K
      repeat first | refine thenN ?_ | refine thenX ?_ | refine thenR ?_ | refine blockN ?_ | refine blockR ?_ | refine blockX ?_ | refine blockM rfl ?_
      have hw : IntKind.i64.wrap ((k : Int) + 1) = (k : Int) + 1 := by rw [wrap_i64] <;> omega
      simp [owedF, h17] at hs
      refine ⟨_, h11, hs, ?_, ?_⟩
      · first | exact trivial | (simp; omega) | simp
      · simp [Weak, TW, hw, encCharges_eq]
  · try simp at h11
    obtain rfl : k = l.length := by omega
    simp [owedF] at hs
    refine AWp.exit ?_
    repeat first | refine thenN ?_ | refine thenX ?_ | refine thenR ?_ | refine blockN ?_ | refine blockR ?_ | refine blockX ?_ | refine blockM rfl ?_
    -- region 8
    refine AWp.rseq E_ok [0, 1, 4, 5, 7, 8, 9, 10, 11, 17] fun K hK => ?_
    simp [encCharges_eq, h11]
    repeat refine ⟨by first | omega | assumption | (simp only [maxLen]; omega), ?_⟩
    refine hK _ ?_
    clear hK K
    refine AWp.ret ?_
    repeat first | refine thenN ?_ | refine thenX ?_ | refine thenR ?_ | refine blockN ?_ | refine blockR ?_ | refine blockX ?_ | refine blockM rfl ?_
    simp [RetOk, RV, hs]
end Go.Proofs.Ytnmbnihbeggmgaa

set_option maxRecDepth 100000
set_option linter.unusedSimpArgs false
set_option linter.unusedVariables false
namespace Go.Proofs.Ytnmbnihbeggmgaa
open Go Ab Lib
theorem fine_remove (l : List Charge) (f : Nat) (caps : List D) (p : Charge → Bool) (hp : ∀ c, ACalls E.P f (encCharge c :: caps) (.d (.bool (p c)))) (hl : l.length ≤ 1000000) : ACalls E.P 32 [encCharges l, .fn f caps] (remR l p) := by
  refine ACalls.intro E_ok Try.func32 rfl rfl Try.ntmps32 Try.results32 (Nat.le_of_ble_eq_true rfl) fun hok base S0 w0 => ?_
  -- region 0
  refine AWp.rseq E_ok [0, 1, 4, 5, 6, 8, 9, 10, 11, 12, 17] fun K hK => ?_
  simp [encCharges_eq]
  repeat refine ⟨by first | omega | assumption | (simp only [maxLen]; omega), ?_⟩
  refine hK _ ?_
  clear hK K
  refine AWp.seq ?_
  -- region 1
  refine AWp.rseq E_ok [0, 1, 4, 5, 6, 8, 9, 10, 11, 12, 17] fun K hK => ?_
  simp [encCharges_eq]
  repeat refine ⟨by first | omega | assumption | (simp only [maxLen]; omega), ?_⟩
  refine hK _ ?_
  clear hK K
  refine AWp.block ?_
  refine AWp.range (l := l) (F := remF p) (tot := remF p ([], 0, 0) l) (fun k y => match y with | (o, q, n) => o.length ≤ k) (fun k y => match y with | (o, q, n) => [(0, T.val (encCharges l)), (1, T.val (.fn f caps)), (4, T.own true (encCharge z0) (o.map encCharge)), (5, T.val (.int .i64 q)), (6, T.val (.int .i64 n)), (9, T.val (encCharges l)), (10, T.val (.int .i64 l.length)), (11, T.val (.int .i64 k))]) ([], 0, 0) ?_ rfl ?_ ?_
  · simp [Weak, TW, encCharges_eq]
  · first | exact trivial | (simp; omega) | simp
  rintro k ⟨o, q, n⟩ hk hs hi
  try simp only at hi
  -- region 2
  refine AWp.rseq E_ok [0, 1, 4, 5, 6, 8, 9, 10, 11, 12, 17] fun K hK => ?_
  simp [encCharges_eq]
  repeat refine ⟨by first | omega | assumption | (simp only [maxLen]; omega), ?_⟩
  refine hK _ ?_
  clear hK K
  refine AWp.seq ?_
  refine AWp.cond rfl (fun h12 => ?_) (fun h12 => ?_)
  · try simp at h12
    obtain ⟨x, hx, hx2, hd⟩ := at_indexG (l := l) h12
    rw [hd] at hs
    refine AWp.skip ?_
    repeat first | refine thenN ?_ | refine thenX ?_ | refine thenR ?_ | refine blockN ?_ | refine blockR ?_ | refine blockX ?_ | refine blockM rfl ?_
    refine AWp.seq ?_
    refine AWp.block ?_
    -- region 3
    refine AWp.rseq E_ok [0, 1, 4, 5, 6, 8, 9, 10, 11, 12, 17] fun K hK => ?_
    simp [encCharges_eq, h12, hx, hx2]
    repeat refine ⟨by first | omega | assumption | (simp only [maxLen]; omega), ?_⟩
    refine hK _ ?_
    clear hK K
    -- region 4
    refine AWp.rseq E_ok [0, 1, 4, 5, 6, 8, 9, 10, 11, 12, 17] fun K hK => ?_
    simp [encCharges_eq, h12, hx, hx2]
    refine meet.of (hp x) ?_
    simp [encCharges_eq, h12, hx, hx2]
    repeat refine ⟨by first | omega | assumption | (simp only [maxLen]; omega), ?_⟩
    refine hK _ ?_
    clear hK K
    refine AWp.cond rfl (fun h17 => ?_) (fun h17 => ?_)
    · try simp at h17
      -- region 5
      refine AWp.rseq E_ok [0, 1, 4, 5, 6, 8, 9, 10, 11, 12, 17] fun K hK => ?_
      simp [encCharges_eq, h12, hx, hx2, h17]
      repeat refine ⟨by first | omega | assumption | (simp only [maxLen]; omega), ?_⟩
      refine hK _ ?_
      clear hK K
      -- region 6
      refine AWp.rend E_ok [0, 1, 4, 5, 6, 8, 9, 10, 11, 12, 17] fun K hK => ?_
      simp [encCharges_eq, h12, hx, hx2, h17]
      repeat refine ⟨by first | omega | assumption | (simp only [maxLen]; omega), ?_⟩
      refine hK _ ?_
      clear hK K
      repeat first | refine thenN ?_ | refine thenX ?_ | refine thenR ?_ | refine blockN ?_ | refine blockR ?_ | refine blockX ?_ | refine blockM rfl ?_
      -- region 8
      refine AWp.rend E_ok [0, 1, 4, 5, 6, 8, 9, 10, 11, 12, 17] fun K hK => ?_
      simp [encCharges_eq, h12, hx, hx2, h17]
      repeat refine ⟨by first | omega | assumption | (simp only [maxLen]; omega), ?_⟩
      refine hK _ ?_
      clear hK K
      repeat first | refine thenN ?_ | refine thenX ?_ | refine thenR ?_ | refine blockN ?_ | refine blockR ?_ | refine blockX ?_ | refine blockM rfl ?_
      have hw : IntKind.i64.wrap ((k : Int) + 1) = (k : Int) + 1 := by rw [wrap_i64] <;> omega
      simp [remF, h17, encCharge] at hs
      refine ⟨_, h12, hs, ?_, ?_⟩
      · first | exact trivial | (simp; omega) | simp
      · simp [Weak, TW, hw, encCharges_eq, encCharge]
    · try simp at h17
      -- region 7
      refine AWp.rend E_ok [0, 1, 4, 5, 6, 8, 9, 10, 11, 12, 17] fun K hK => ?_
      simp [encCharges_eq, h12, hx, hx2, h17]
      repeat refine ⟨by first | omega | assumption | (simp only [maxLen]; omega), ?_⟩
      refine hK _ ?_
      clear hK K
      repeat first | refine thenN ?_ | refine thenX ?_ | refine thenR ?_ | refine blockN ?_ | refine blockR ?_ | refine blockX ?_ | refine blockM rfl ?_
      -- region 8
      refine AWp.rend E_ok [0, 1, 4, 5, 6, 8, 9, 10, 11, 12, 17] fun K hK => ?_
      simp [encCharges_eq, h12, hx, hx2, h17]
      repeat refine ⟨by first | omega | assumption | (simp only [maxLen]; omega), ?_⟩
      refine hK _ ?_
      clear hK K
      repeat first | refine thenN ?_ | refine thenX ?_ | refine thenR ?_ | refine blockN ?_ | refine blockR ?_ | refine blockX ?_ | refine blockM rfl ?_
      have hw : IntKind.i64.wrap ((k : Int) + 1) = (k : Int) + 1 := by rw [wrap_i64] <;> omega
      simp [remF, h17, encCharge] at hs
      refine ⟨_, h12, hs, ?_, ?_⟩
      · first | exact trivial | (simp; omega) | simp
      · simp [Weak, TW, hw, encCharges_eq, encCharge]
  · try simp at h12
    obtain rfl : k = l.length := by omega
    simp [remF] at hs
    refine AWp.exit ?_
    repeat first | refine thenN ?_ | refine thenX ?_ | refine thenR ?_ | refine blockN ?_ | refine blockR ?_ | refine blockX ?_ | refine blockM rfl ?_
    -- region 9
    refine AWp.rseq E_ok [0, 1, 4, 5, 6, 8, 9, 10, 11, 12, 17] fun K hK => ?_
    simp [encCharges_eq, h12]
    repeat refine ⟨by first | omega | assumption | (simp only [maxLen]; omega), ?_⟩
    refine hK _ ?_
    clear hK K
    refine AWp.ret ?_
    repeat first | refine thenN ?_ | refine thenX ?_ | refine thenR ?_ | refine blockN ?_ | refine blockR ?_ | refine blockX ?_ | refine blockM rfl ?_
    simp [RetOk, RV, RVs, remR, ← hs, encCharges_eq]
end Go.Proofs.Ytnmbnihbeggmgaa

set_option maxRecDepth 100000
set_option linter.unusedSimpArgs false
set_option linter.unusedVariables false
namespace Go.Proofs.Ytnmbnihbeggmgaa
open Go Ab Lib
theorem fine_Waive_1 (c : Charge) (i : Int) : ACalls E.P 33 [encCharge c, .ref [.int .i64 i]] (.d (.bool (c.id == i))) := by
  refine ACalls.intro E_ok Try.func33 rfl rfl Try.ntmps33 Try.results33 (Nat.le_of_ble_eq_true rfl) fun hok base S0 w0 => ?_
  -- region 0
  refine AWp.rseq E_ok [0, 1, 2, 3] fun K hK => ?_
  simp [encCharge_eq]
  repeat refine ⟨by first | omega | assumption | (simp only [maxLen]; omega), ?_⟩
  refine hK _ ?_
  clear hK K
  -- region 1
  refine AWp.rseq E_ok [0, 1, 2, 3] fun K hK => ?_
  simp [encCharge_eq]
  repeat refine ⟨by first | omega | assumption | (simp only [maxLen]; omega), ?_⟩
  refine hK _ ?_
  clear hK K
  refine AWp.ret ?_
  repeat first | refine thenN ?_ | refine thenX ?_ | refine thenR ?_ | refine blockN ?_ | refine blockR ?_ | refine blockX ?_ | refine blockM rfl ?_
  simp [RetOk, RV]
end Go.Proofs.Ytnmbnihbeggmgaa

set_option maxRecDepth 100000
set_option linter.unusedSimpArgs false
set_option linter.unusedVariables false
namespace Go.Proofs.Ytnmbnihbeggmgaa
open Go Ab Lib
theorem fine_Waive (l : List Charge) (i : Int) (hl : l.length ≤ 1000000) : ACalls E.P 19 [encCharges l, .int .i64 i] (waiveR l i) := by
  refine ACalls.intro E_ok Try.func19 rfl rfl Try.ntmps19 Try.results19 (Nat.le_of_ble_eq_true rfl) fun hok base S0 w0 => ?_
  -- region 0
  refine AWp.rseq E_ok [0, 1, 3, 4, 5, 6, 7, 8, 9, 18] fun K hK => ?_
  simp [encCharges_eq, remR]
  repeat refine ⟨by first | omega | assumption | (simp only [maxLen]; omega), ?_⟩
  refine hK _ ?_
  clear hK K
  -- region 1
  refine AWp.rseq E_ok [0, 1, 3, 4, 5, 6, 7, 8, 9, 18] fun K hK => ?_
  simp [encCharges_eq, remR]
  refine meet.of (fine_remove l 33 [.ref [.int .i64 i]] (fun c => c.id == i) (fun c => fine_Waive_1 c i) hl) ?_
  simp [encCharges_eq, remR]
  repeat refine ⟨by first | omega | assumption | (simp only [maxLen]; omega), ?_⟩
  refine hK _ ?_
  clear hK K
  refine AWp.seq ?_
  -- region 2
  refine AWp.rseq E_ok [0, 1, 3, 4, 5, 6, 7, 8, 9, 18] fun K hK => ?_
  simp [encCharges_eq, remR]
  repeat refine ⟨by first | omega | assumption | (simp only [maxLen]; omega), ?_⟩
  refine hK _ ?_
  clear hK K
  refine AWp.cond rfl (fun h18 => ?_) (fun h18 => ?_)
  · try simp at h18
    -- region 3
    refine AWp.rseq E_ok [0, 1, 3, 4, 5, 6, 7, 8, 9, 18] fun K hK => ?_
    simp [encCharges_eq, remR, h18]
    repeat refine ⟨by first | omega | assumption | (simp only [maxLen]; omega), ?_⟩
    refine hK _ ?_
    clear hK K
    refine AWp.ret ?_
    repeat first | refine thenN ?_ | refine thenX ?_ | refine thenR ?_ | refine blockN ?_ | refine blockR ?_ | refine blockX ?_ | refine blockM rfl ?_
    first | (rw [waiveR_none h18]; simp [RetOk, RV, RVs, encCharges_eq]; done) | (rw [waiveR_some h18]; simp [RetOk, RV, RVs, encCharges_eq])
  · try simp at h18
    refine AWp.skip ?_
    repeat first | refine thenN ?_ | refine thenX ?_ | refine thenR ?_ | refine blockN ?_ | refine blockR ?_ | refine blockX ?_ | refine blockM rfl ?_
    -- region 4
    refine AWp.rseq E_ok [0, 1, 3, 4, 5, 6, 7, 8, 9, 18] fun K hK => ?_
    simp [encCharges_eq, remR, h18]
    repeat refine ⟨by first | omega | assumption | (simp only [maxLen]; omega), ?_⟩
    refine hK _ ?_
    clear hK K
    refine AWp.ret ?_
    repeat first | refine thenN ?_ | refine thenX ?_ | refine thenR ?_ | refine blockN ?_ | refine blockR ?_ | refine blockX ?_ | refine blockM rfl ?_
    first | (rw [waiveR_none h18]; simp [RetOk, RV, RVs, encCharges_eq]; done) | (rw [waiveR_some h18]; simp [RetOk, RV, RVs, encCharges_eq])
end Go.Proofs.Ytnmbnihbeggmgaa

set_option maxRecDepth 100000
set_option linter.unusedSimpArgs false
set_option linter.unusedVariables false
namespace Go.Proofs.Ytnmbnihbeggmgaa
open Go Ab Lib
theorem fine_Late_xa : ACalls E.P 11 [encRule r0, encCal c0, .int .i64 10, .int .i64 11] (.d (.int .i64 0)) := by
  have := fine_Late r0 c0 10 11 (by decide)
  rwa [show lateR r0 c0 10 11 = 0 by decide +kernel] at this
theorem fine_Late_xb : ACalls E.P 11 [encRule r0, encCal c0, .int .i64 10, .int .i64 12] (.d (.int .i64 40)) := by
  have := fine_Late r0 c0 10 12 (by decide)
  rwa [show lateR r0 c0 10 12 = 40 by decide +kernel] at this
theorem fine_Late_xc : ACalls E.P 11 [encRule r0, encCal c0, .int .i64 10, .int .i64 20] (.d (.int .i64 100)) := by
  have := fine_Late r0 c0 10 20 (by decide)
  rwa [show lateR r0 c0 10 20 = 100 by decide +kernel] at this
theorem fine_Pay_xa : ACalls E.P 14 [encCharges l0, .int .i64 5, .int .i64 220] (.tup [encCharges [⟨2, 5, 4, 9, 3, 50, 20⟩], .int .i64 0, .int .i64 0]) := by
  have := fine_Pay l0 5 220 (by decide)
  rwa [show payR l0 5 220 = .tup [encCharges [⟨2, 5, 4, 9, 3, 50, 20⟩], .int .i64 0, .int .i64 0] by kernel_rfl] at this
theorem fine_Pay_xb : ACalls E.P 14 [encCharges l0, .int .i64 5, .int .i64 260] (.tup [encCharges [], .int .i64 10, .int .i64 0]) := by
  have := fine_Pay l0 5 260 (by decide)
  rwa [show payR l0 5 260 = .tup [encCharges [], .int .i64 10, .int .i64 0] by kernel_rfl] at this
theorem fine_Owed_x : ACalls E.P 16 [encCharges l0, .int .i64 5] (.d (.int .i64 250)) := by
  have := fine_Owed l0 5
  rwa [show owedF 5 0 l0 = 250 by decide +kernel] at this
theorem fine_Waive_x : ACalls E.P 19 [encCharges l0, .int .i64 1] (.tup [encCharges [⟨2, 5, 4, 9, 3, 50, 0⟩], .int .i64 100, .int .i64 0]) := by
  have := fine_Waive l0 1 (by decide)
  rwa [show waiveR l0 1 = .tup [encCharges [⟨2, 5, 4, 9, 3, 50, 0⟩], .int .i64 100, .int .i64 0] by kernel_rfl] at this

end Go.Proofs.Ytnmbnihbeggmgaa

set_option maxRecDepth 100000
set_option linter.unusedSimpArgs false
set_option linter.unusedVariables false
namespace Go.Proofs.Ytnmbnihbeggmgaa
open Go Ab Lib
theorem law29_alive  : ACalls E.P 9 [] (.d (.bool true)) := by
  refine ACalls.intro E_ok Try.func9 rfl rfl Try.ntmps9 Try.results9 (Nat.le_of_ble_eq_true rfl) fun hok base S0 w0 => ?_
  -- region 0
  refine AWp.rseq E_ok [0, 1, 2, 3, 4, 5, 6, 7, 8, 9, 11, 12, 30, 69] fun K hK => ?_
  simp [encCharges_eq, encCharge_eq]
  repeat refine ⟨by first | omega | assumption | (simp only [maxLen]; omega), ?_⟩
  refine hK _ ?_
  clear hK K
  -- region 1
  refine AWp.rseq E_ok [0, 1, 2, 3, 4, 5, 6, 7, 8, 9, 11, 12, 30, 69] fun K hK => ?_
  simp [encCharges_eq, encCharge_eq]
  repeat refine ⟨by first | omega | assumption | (simp only [maxLen]; omega), ?_⟩
  refine hK _ ?_
  clear hK K
  -- region 2
  refine AWp.rseq E_ok [0, 1, 2, 3, 4, 5, 6, 7, 8, 9, 11, 12, 30, 69] fun K hK => ?_
  simp [encCharges_eq, encCharge_eq]
  repeat refine ⟨by first | omega | assumption | (simp only [maxLen]; omega), ?_⟩
  refine hK _ ?_
  clear hK K
  refine AWp.seq ?_
  -- region 3
  refine AWp.rseq E_ok [0, 1, 2, 3, 4, 5, 6, 7, 8, 9, 11, 12, 30, 69] fun K hK => ?_
  simp [encCharges_eq, encCharge_eq]
  refine meet.of (fine_Late_xa) ?_
  simp [encCharges_eq, encCharge_eq]
  refine meet.of (fine_Late_xb) ?_
  simp [encCharges_eq, encCharge_eq]
  refine meet.of (fine_Late_xc) ?_
  simp [encCharges_eq, encCharge_eq]
  repeat refine ⟨by first | omega | assumption | (simp only [maxLen]; omega), ?_⟩
  refine hK _ ?_
  clear hK K
  refine AWp.cond rfl (fun h30 => ?_) (fun h30 => ?_)
  · exact absurd h30 (by simp)
  · try simp at h30
    refine AWp.skip ?_
    repeat first | refine thenN ?_ | refine thenX ?_ | refine thenR ?_ | refine blockN ?_ | refine blockR ?_ | refine blockX ?_ | refine blockM rfl ?_
    -- region 5
    refine AWp.rseq E_ok [0, 1, 2, 3, 4, 5, 6, 7, 8, 9, 11, 12, 30, 69] fun K hK => ?_
    simp [encCharges_eq, encCharge_eq]
    repeat refine ⟨by first | omega | assumption | (simp only [maxLen]; omega), ?_⟩
    refine hK _ ?_
    clear hK K
    -- region 6
    refine AWp.rseq E_ok [0, 1, 2, 3, 4, 5, 6, 7, 8, 9, 11, 12, 30, 69] fun K hK => ?_
    simp [encCharges_eq, encCharge_eq]
    refine meet.of (fine_Pay_xa) ?_
    simp [encCharges_eq, encCharge_eq]
    repeat refine ⟨by first | omega | assumption | (simp only [maxLen]; omega), ?_⟩
    refine hK _ ?_
    clear hK K
    refine AWp.seq ?_
    -- region 7
    refine AWp.rseq E_ok [0, 1, 2, 3, 4, 5, 6, 7, 8, 9, 11, 12, 30, 69] fun K hK => ?_
    simp [encCharges_eq, encCharge_eq]
    refine meet.of (fine_Owed_x) ?_
    simp [encCharges_eq, encCharge_eq]
    repeat refine ⟨by first | omega | assumption | (simp only [maxLen]; omega), ?_⟩
    refine hK _ ?_
    clear hK K
    refine AWp.cond rfl (fun h69 => ?_) (fun h69 => ?_)
    · exact absurd h69 (by simp)
    · try simp at h69
      refine AWp.skip ?_
      repeat first | refine thenN ?_ | refine thenX ?_ | refine thenR ?_ | refine blockN ?_ | refine blockR ?_ | refine blockX ?_ | refine blockM rfl ?_
      -- region 9
      refine AWp.rseq E_ok [0, 1, 2, 3, 4, 5, 6, 7, 8, 9, 11, 12, 30, 69] fun K hK => ?_
      simp [encCharges_eq, encCharge_eq]
      refine meet.of (fine_Pay_xb) ?_
      simp [encCharges_eq, encCharge_eq]
      repeat refine ⟨by first | omega | assumption | (simp only [maxLen]; omega), ?_⟩
      refine hK _ ?_
      clear hK K
      -- region 10
      refine AWp.rseq E_ok [0, 1, 2, 3, 4, 5, 6, 7, 8, 9, 11, 12, 30, 69] fun K hK => ?_
      simp [encCharges_eq, encCharge_eq]
      refine meet.of (fine_Waive_x) ?_
      simp [encCharges_eq, encCharge_eq]
      repeat refine ⟨by first | omega | assumption | (simp only [maxLen]; omega), ?_⟩
      refine hK _ ?_
      clear hK K
      -- region 11
      refine AWp.rseq E_ok [0, 1, 2, 3, 4, 5, 6, 7, 8, 9, 11, 12, 30, 69] fun K hK => ?_
      simp [encCharges_eq, encCharge_eq]
      repeat refine ⟨by first | omega | assumption | (simp only [maxLen]; omega), ?_⟩
      refine hK _ ?_
      clear hK K
      refine AWp.ret ?_
      repeat first | refine thenN ?_ | refine thenX ?_ | refine thenR ?_ | refine blockN ?_ | refine blockR ?_ | refine blockX ?_ | refine blockM rfl ?_
      simp [RetOk, RV, RVs]
end Go.Proofs.Ytnmbnihbeggmgaa

set_option maxRecDepth 100000
set_option linter.unusedSimpArgs false
set_option linter.unusedVariables false
namespace Go.Proofs.Ytnmbnihbeggmgaa
open Go Ab Lib
theorem law29_rule (r : Rule) : ACalls E.P 10 [encRule r] (.d (.bool (ruleOk r))) := by
  refine ACalls.intro E_ok Try.func10 rfl rfl Try.ntmps10 Try.results10 (Nat.le_of_ble_eq_true rfl) fun hok base S0 w0 => ?_
  -- region 0
  refine AWp.rseq E_ok [0, 1, 2] fun K hK => ?_
  simp [encRule_eq]
  repeat refine ⟨by first | omega | assumption | (simp only [maxLen]; omega), ?_⟩
  refine hK _ ?_
  clear hK K
  -- region 1
  refine AWp.rseq E_ok [0, 1, 2] fun K hK => ?_
  simp [encRule_eq]
  repeat refine ⟨by first | omega | assumption | (simp only [maxLen]; omega), ?_⟩
  refine hK _ ?_
  clear hK K
  refine AWp.ret ?_
  repeat first | refine thenN ?_ | refine thenX ?_ | refine thenR ?_ | refine blockN ?_ | refine blockR ?_ | refine blockX ?_ | refine blockM rfl ?_
  simp [RetOk, RV, ruleOk]
end Go.Proofs.Ytnmbnihbeggmgaa

set_option maxRecDepth 100000
set_option linter.unusedSimpArgs false
set_option linter.unusedVariables false
namespace Go.Proofs.Ytnmbnihbeggmgaa
open Go Ab Lib
theorem ref26_Right (c : Cal) : ACalls E.P 24 [encCal c] (.d (.int .i64 (calR c))) := by
  refine ACalls.intro E_ok Try.func24 rfl rfl Try.ntmps24 Try.results24 (Nat.le_of_ble_eq_true rfl) fun hok base S0 w0 => ?_
  have hl : c.closed.length ≤ 9223372036854775807 := cal_len (hok (encCal c) (by simp))
  -- region 0
  refine AWp.rseq E_ok [0, 1, 2, 3, 4, 12, 16, 21, 37, 42, 56] fun K hK => ?_
  simp [encCal_eq, encInts_eq]
  repeat refine ⟨by first | omega | assumption | (simp only [maxLen]; omega), ?_⟩
  refine hK _ ?_
  clear hK K
  refine AWp.seq ?_
  -- region 1
  refine AWp.rseq E_ok [0, 1, 2, 3, 4, 12, 16, 21, 37, 42, 56] fun K hK => ?_
  simp [encCal_eq, encInts_eq]
  repeat refine ⟨by first | omega | assumption | (simp only [maxLen]; omega), ?_⟩
  refine hK _ ?_
  clear hK K
  refine AWp.cond rfl (fun h12 => ?_) (fun h12 => ?_)
  · try simp at h12
    -- region 2
    refine AWp.rseq E_ok [0, 1, 2, 3, 4, 12, 16, 21, 37, 42, 56] fun K hK => ?_
    simp [encCal_eq, encInts_eq, h12]
    repeat refine ⟨by first | omega | assumption | (simp only [maxLen]; omega), ?_⟩
    refine hK _ ?_
    clear hK K
    refine AWp.ret ?_
    repeat first | refine thenN ?_ | refine thenX ?_ | refine thenR ?_ | refine blockN ?_ | refine blockR ?_ | refine blockX ?_ | refine blockM rfl ?_
    first | (rw [cal1 (by omega)]; simp [RetOk, RV]; done) | (rw [cal13 (by omega) h16]; simp [RetOk, RV]; done) | (rw [cal2b (by omega) h16 (by simpa using hs.symm)]; simp [RetOk, RV]; done) | (rw [calAb (by omega) h16 hb]; simp [RetOk, RV, ← hs])
  · try simp at h12
    refine AWp.skip ?_
    repeat first | refine thenN ?_ | refine thenX ?_ | refine thenR ?_ | refine blockN ?_ | refine blockR ?_ | refine blockX ?_ | refine blockM rfl ?_
    refine AWp.seq ?_
    -- region 3
    refine AWp.rseq E_ok [0, 1, 2, 3, 4, 12, 16, 21, 37, 42, 56] fun K hK => ?_
    simp [encCal_eq, encInts_eq, h12]
    repeat refine ⟨by first | omega | assumption | (simp only [maxLen]; omega), ?_⟩
    refine hK _ ?_
    clear hK K
    refine AWp.cond rfl (fun h16 => ?_) (fun h16 => ?_)
    · try simp at h16
      -- region 4
      refine AWp.rseq E_ok [0, 1, 2, 3, 4, 12, 16, 21, 37, 42, 56] fun K hK => ?_
      simp [encCal_eq, encInts_eq, h12, h16]
      repeat refine ⟨by first | omega | assumption | (simp only [maxLen]; omega), ?_⟩
      refine hK _ ?_
      clear hK K
      refine AWp.ret ?_
      repeat first | refine thenN ?_ | refine thenX ?_ | refine thenR ?_ | refine blockN ?_ | refine blockR ?_ | refine blockX ?_ | refine blockM rfl ?_
      first | (rw [cal1 (by omega)]; simp [RetOk, RV]; done) | (rw [cal13 (by omega) h16]; simp [RetOk, RV]; done) | (rw [cal2b (by omega) h16 (by simpa using hs.symm)]; simp [RetOk, RV]; done) | (rw [calAb (by omega) h16 hb]; simp [RetOk, RV, ← hs])
    · try simp at h16
      refine AWp.skip ?_
      repeat first | refine thenN ?_ | refine thenX ?_ | refine thenR ?_ | refine blockN ?_ | refine blockR ?_ | refine blockX ?_ | refine blockM rfl ?_
      refine AWp.seq ?_
      -- region 5
      refine AWp.rseq E_ok [0, 1, 2, 3, 4, 12, 16, 21, 37, 42, 56] fun K hK => ?_
      simp [encCal_eq, encInts_eq, h12, h16]
      repeat refine ⟨by first | omega | assumption | (simp only [maxLen]; omega), ?_⟩
      refine hK _ ?_
      clear hK K
      refine AWp.block ?_
      refine AWp.range (l := c.closed) (F := badF) (tot := badF () c.closed) (fun k y => match y with | u => True) (fun k y => match y with | u => [(0, T.val (D.agg [D.int IntKind.i64 c.week, (D.int IntKind.i64 0).slice (List.map (D.int IntKind.i64) c.closed)])), (1, T.box [C.d (D.int IntKind.i64 c.week), C.d ((D.int IntKind.i64 0).slice (List.map (D.int IntKind.i64) c.closed))]), (3, T.val (.int .i64 k))]) () ?_ rfl ?_ ?_
      · simp [Weak, TW, encCal_eq, encInts_eq]
      · first | exact trivial | (simp; omega) | simp
      rintro k u hk hs hi
      try simp only at hi
      refine AWp.seq ?_
      -- region 6
      refine AWp.rseq E_ok [0, 1, 2, 3, 4, 12, 16, 21, 37, 42, 56] fun K hK => ?_
      simp [encCal_eq, encInts_eq, h12, h16]
      repeat refine ⟨by first | omega | assumption | (simp only [maxLen]; omega), ?_⟩
      refine hK _ ?_
      clear hK K
      refine AWp.cond rfl (fun h21 => ?_) (fun h21 => ?_)
      · try simp at h21
        obtain ⟨x, hx, hx2, hd⟩ := at_indexG (l := c.closed) h21
        rw [hd] at hs
        refine AWp.skip ?_
        repeat first | refine thenN ?_ | refine thenX ?_ | refine thenR ?_ | refine blockN ?_ | refine blockR ?_ | refine blockX ?_ | refine blockM rfl ?_
        refine AWp.seq ?_
        refine AWp.block ?_
        -- region 8
        refine AWp.rseq E_ok [0, 1, 2, 3, 4, 12, 16, 21, 37, 42, 56] fun K hK => ?_
        simp [encCal_eq, encInts_eq, h12, h16, h21, hx, hx2]
        repeat refine ⟨by first | omega | assumption | (simp only [maxLen]; omega), ?_⟩
        refine hK _ ?_
        clear hK K
        refine AWp.cond rfl (fun h37 => ?_) (fun h37 => ?_)
        · try simp at h37
          have hc : isDay x = false := by simp [isDay]; omega
          -- region 9
          refine AWp.rseq E_ok [0, 1, 2, 3, 4, 12, 16, 21, 37, 42, 56] fun K hK => ?_
          simp [encCal_eq, encInts_eq, h12, h16, h21, hx, hx2, h37]
          repeat refine ⟨by first | omega | assumption | (simp only [maxLen]; omega), ?_⟩
          refine hK _ ?_
          clear hK K
          refine AWp.ret ?_
          repeat first | refine thenN ?_ | refine thenX ?_ | refine thenR ?_ | refine blockN ?_ | refine blockR ?_ | refine blockX ?_ | refine blockM rfl ?_
          first | simp [badF, hc] at hs | simp [badF] at hs
          first | (rw [cal1 (by omega)]; simp [RetOk, RV]; done) | (rw [cal13 (by omega) h16]; simp [RetOk, RV]; done) | (rw [cal2b (by omega) h16 (by simpa using hs.symm)]; simp [RetOk, RV]; done) | (rw [calAb (by omega) h16 hb]; simp [RetOk, RV, ← hs])
        · try simp at h37
          have hc : isDay x = true := by simp [isDay]; omega
          refine AWp.skip ?_
          repeat first | refine thenN ?_ | refine thenX ?_ | refine thenR ?_ | refine blockN ?_ | refine blockR ?_ | refine blockX ?_ | refine blockM rfl ?_
          -- region 7
          refine AWp.rend E_ok [0, 1, 2, 3, 4, 12, 16, 21, 37, 42, 56] fun K hK => ?_
          simp [encCal_eq, encInts_eq, h12, h16, h21, hx, hx2, h37]
          repeat refine ⟨by first | omega | assumption | (simp only [maxLen]; omega), ?_⟩
          refine hK _ ?_
          clear hK K
          repeat first | refine thenN ?_ | refine thenX ?_ | refine thenR ?_ | refine blockN ?_ | refine blockR ?_ | refine blockX ?_ | refine blockM rfl ?_
          have hw : IntKind.i64.wrap ((k : Int) + 1) = (k : Int) + 1 := by rw [wrap_i64] <;> omega
          simp [badF, hc] at hs
          refine ⟨_, h21, hs, ?_, ?_⟩
          · first | exact trivial | (simp; omega) | simp
          · simp [Weak, TW, hw, encCal_eq, encInts_eq]
      · try simp at h21
        have hb : badF () c.closed = false := by have e1 : c.closed.drop k = [] := List.drop_eq_nil_of_le (by omega); rw [e1] at hs; simpa [badF] using hs.symm
        obtain rfl : k = c.closed.length := by omega
        simp [badF] at hs
        refine AWp.exit ?_
        repeat first | refine thenN ?_ | refine thenX ?_ | refine thenR ?_ | refine blockN ?_ | refine blockR ?_ | refine blockX ?_ | refine blockM rfl ?_
        refine AWp.seq ?_
        -- region 10
        clear hs hi hk
        refine AWp.rseq E_ok [0, 1, 2, 3, 4, 12, 16, 21, 37, 42, 56] fun K hK => ?_
        simp [encCal_eq, encInts_eq, h12, h16, h21]
        repeat refine ⟨by first | omega | assumption | (simp only [maxLen]; omega), ?_⟩
        refine hK _ ?_
        clear hK K
        refine AWp.block ?_
        refine AWp.range (l := c.closed.tail) (F := ascF) (tot := ascF c.closed.head? c.closed.tail) (fun k y => match y with | pr => pr = c.closed[k]?) (fun k y => match y with | pr => [(0, T.val (D.agg [D.int IntKind.i64 c.week, (D.int IntKind.i64 0).slice (List.map (D.int IntKind.i64) c.closed)])), (1, T.box [C.d (D.int IntKind.i64 c.week), C.d ((D.int IntKind.i64 0).slice (List.map (D.int IntKind.i64) c.closed))]), (4, T.val (.int .i64 ((k : Int) + 1)))]) (c.closed.head?) ?_ rfl ?_ ?_
        · simp [Weak, TW, encCal_eq, encInts_eq]
        · first | (simp; done) | (simp [hx']; done) | (simp [List.head?_eq_getElem?])
        rintro k pr hk hs hi
        try simp only at hi
        refine AWp.seq ?_
        -- region 11
        refine AWp.rseq E_ok [0, 1, 2, 3, 4, 12, 16, 21, 37, 42, 56] fun K hK => ?_
        simp [encCal_eq, encInts_eq, h12, h16, h21]
        repeat refine ⟨by first | omega | assumption | (simp only [maxLen]; omega), ?_⟩
        refine hK _ ?_
        clear hK K
        refine AWp.cond rfl (fun h42 => ?_) (fun h42 => ?_)
        · try simp at h42
          have hlt : k < c.closed.tail.length := by simp; omega
          obtain ⟨x, hx, hx2, hd⟩ := at_indexG (l := c.closed.tail) hlt
          rw [hd] at hs
          refine AWp.skip ?_
          repeat first | refine thenN ?_ | refine thenX ?_ | refine thenR ?_ | refine blockN ?_ | refine blockR ?_ | refine blockX ?_ | refine blockM rfl ?_
          refine AWp.seq ?_
          refine AWp.block ?_
          -- region 13
          have hx' : c.closed[k + 1]? = some x := by rw [← List.getElem?_tail]; exact hx
          have hx3 : c.closed[k + 1]'(by omega) = x := (List.getElem?_eq_some_iff.1 hx').2
          obtain ⟨y, hy1, hy2, _⟩ := at_indexG (l := c.closed) (k := k) (by omega)
          have hj0 : IntKind.i64.wrap (k : Int) = (k : Int) := by rw [wrap_i64] <;> omega
          have hj1 : k < c.closed.length := by omega
          rw [hi, hy1] at hs
          refine AWp.rseqQ E_ok mixed [0, 1, 2, 3, 4, 12, 16, 21, 37, 42, 56] (by kernel_rfl) fun K hK => ?_
          simp [encCal_eq, encInts_eq, h12, h16, h21, h42, hx', hx3, hy1, hy2, hj0, hj1, hx, hx2]
          repeat refine ⟨by first | omega | assumption | (simp only [maxLen]; omega), ?_⟩
          refine hK _ ?_
          clear hK K
          refine AWp.cond rfl (fun h56 => ?_) (fun h56 => ?_)
          · try simp at h56
            have hlo : lowId (some y) x = true := by simpa [lowId] using h56
            simp [ascF, hlo] at hs
            -- region 14
            refine AWp.rseq E_ok [0, 1, 2, 3, 4, 12, 16, 21, 37, 42, 56] fun K hK => ?_
            simp [encCal_eq, encInts_eq, h12, h16, h21, h42, hx', hx3, hy1, hy2, hj0, hj1, hx, hx2, h56]
            repeat refine ⟨by first | omega | assumption | (simp only [maxLen]; omega), ?_⟩
            refine hK _ ?_
            clear hK K
            refine AWp.ret ?_
            repeat first | refine thenN ?_ | refine thenX ?_ | refine thenR ?_ | refine blockN ?_ | refine blockR ?_ | refine blockX ?_ | refine blockM rfl ?_
            first | (rw [cal1 (by omega)]; simp [RetOk, RV]; done) | (rw [cal13 (by omega) h16]; simp [RetOk, RV]; done) | (rw [cal2b (by omega) h16 (by simpa using hs.symm)]; simp [RetOk, RV]; done) | (rw [calAb (by omega) h16 hb]; simp [RetOk, RV, ← hs])
          · try simp at h56
            have hlo : lowId (some y) x = false := by simpa [lowId] using h56
            have hw1 : IntKind.i64.wrap ((k : Int) + 1 + 1) = (k : Int) + 1 + 1 := by rw [wrap_i64] <;> omega
            refine AWp.skip ?_
            repeat first | refine thenN ?_ | refine thenX ?_ | refine thenR ?_ | refine blockN ?_ | refine blockR ?_ | refine blockX ?_ | refine blockM rfl ?_
            -- region 12
            refine AWp.rend E_ok [0, 1, 2, 3, 4, 12, 16, 21, 37, 42, 56] fun K hK => ?_
            simp [encCal_eq, encInts_eq, h12, h16, h21, h42, hx', hx3, hy1, hy2, hj0, hj1, hx, hx2, h56]
            repeat refine ⟨by first | omega | assumption | (simp only [maxLen]; omega), ?_⟩
            refine hK _ ?_
            clear hK K
            repeat first | refine thenN ?_ | refine thenX ?_ | refine thenR ?_ | refine blockN ?_ | refine blockR ?_ | refine blockX ?_ | refine blockM rfl ?_
            have hw : IntKind.i64.wrap ((k : Int) + 1) = (k : Int) + 1 := by rw [wrap_i64] <;> omega
            simp [ascF, hlo] at hs
            have hs : ascF (some x) (c.closed.tail.drop (k + 1)) = ascF c.closed.head? c.closed.tail := by simpa using hs
            refine ⟨_, hlt, hs, ?_, ?_⟩
            · first | (simp; done) | (simp [hx']; done) | (simp [List.head?_eq_getElem?])
            · simp [Weak, TW, hw, encCal_eq, encInts_eq, hw1]
        · try simp at h42
          have hz : c.closed.tail.drop k = [] := List.drop_eq_nil_of_le (by simp; omega)
          rw [hz] at hs
          simp [ascF] at hs
          refine AWp.exit ?_
          repeat first | refine thenN ?_ | refine thenX ?_ | refine thenR ?_ | refine blockN ?_ | refine blockR ?_ | refine blockX ?_ | refine blockM rfl ?_
          -- region 15
          refine AWp.rseq E_ok [0, 1, 2, 3, 4, 12, 16, 21, 37, 42, 56] fun K hK => ?_
          simp [encCal_eq, encInts_eq, h12, h16, h21, h42]
          repeat refine ⟨by first | omega | assumption | (simp only [maxLen]; omega), ?_⟩
          refine hK _ ?_
          clear hK K
          refine AWp.ret ?_
          repeat first | refine thenN ?_ | refine thenX ?_ | refine thenR ?_ | refine blockN ?_ | refine blockR ?_ | refine blockX ?_ | refine blockM rfl ?_
          first | (rw [cal1 (by omega)]; simp [RetOk, RV]; done) | (rw [cal13 (by omega) h16]; simp [RetOk, RV]; done) | (rw [cal2b (by omega) h16 (by simpa using hs.symm)]; simp [RetOk, RV]; done) | (rw [calAb (by omega) h16 hb]; simp [RetOk, RV, ← hs])
end Go.Proofs.Ytnmbnihbeggmgaa

set_option maxRecDepth 100000
set_option linter.unusedSimpArgs false
set_option linter.unusedVariables false
namespace Go.Proofs.Ytnmbnihbeggmgaa
open Go Ab Lib
theorem ref29_day (n : Int) : ACalls E.P 30 [.int .i64 n] (.d (.bool (isDay n))) := by
  refine ACalls.intro E_ok Try.func30 rfl rfl Try.ntmps30 Try.results30 (Nat.le_of_ble_eq_true rfl) fun hok base S0 w0 => ?_
  -- region 0
  refine AWp.rseq E_ok [0, 2] fun K hK => ?_
  simp
  repeat refine ⟨by first | omega | assumption | (simp only [maxLen]; omega), ?_⟩
  refine hK _ ?_
  clear hK K
  -- region 1
  refine AWp.rseq E_ok [0, 2] fun K hK => ?_
  simp
  repeat refine ⟨by first | omega | assumption | (simp only [maxLen]; omega), ?_⟩
  refine hK _ ?_
  clear hK K
  refine AWp.ret ?_
  repeat first | refine thenN ?_ | refine thenX ?_ | refine thenR ?_ | refine blockN ?_ | refine blockR ?_ | refine blockX ?_ | refine blockM rfl ?_
  simp [RetOk, RV, isDay]
end Go.Proofs.Ytnmbnihbeggmgaa

set_option maxRecDepth 100000
set_option linter.unusedSimpArgs false
set_option linter.unusedVariables false
namespace Go.Proofs.Ytnmbnihbeggmgaa
open Go Ab Lib
theorem ref03_Is (n : Int) : ACalls E.P 47 [.int .i64 n] (.d (.bool (isDay n))) := by
  refine ACalls.intro E_ok Try.func47 rfl rfl Try.ntmps47 Try.results47 (Nat.le_of_ble_eq_true rfl) fun hok base S0 w0 => ?_
  -- region 0
  refine AWp.rseq E_ok [0, 2] fun K hK => ?_
  simp
  repeat refine ⟨by first | omega | assumption | (simp only [maxLen]; omega), ?_⟩
  refine hK _ ?_
  clear hK K
  -- region 1
  refine AWp.rseq E_ok [0, 2] fun K hK => ?_
  simp
  repeat refine ⟨by first | omega | assumption | (simp only [maxLen]; omega), ?_⟩
  refine hK _ ?_
  clear hK K
  refine AWp.ret ?_
  repeat first | refine thenN ?_ | refine thenX ?_ | refine thenR ?_ | refine blockN ?_ | refine blockR ?_ | refine blockX ?_ | refine blockM rfl ?_
  simp [RetOk, RV, isDay]
end Go.Proofs.Ytnmbnihbeggmgaa

set_option maxRecDepth 100000
set_option linter.unusedSimpArgs false
set_option linter.unusedVariables false
namespace Go.Proofs.Ytnmbnihbeggmgaa
open Go Ab Lib
theorem ref03_Weekday (n : Int) : ACalls E.P 46 [.int .i64 n] (.d (.int .i64 (wday n))) := by
  refine ACalls.intro E_ok Try.func46 rfl rfl Try.ntmps46 Try.results46 (Nat.le_of_ble_eq_true rfl) fun hok base S0 w0 => ?_
  -- region 0
  refine AWp.rseq E_ok [0, 2, 5] fun K hK => ?_
  simp
  repeat refine ⟨by first | omega | assumption | (simp only [maxLen]; omega), ?_⟩
  refine hK _ ?_
  clear hK K
  refine AWp.seq ?_
  -- region 1
  refine AWp.rseq E_ok [0, 2, 5] fun K hK => ?_
  simp
  refine meet.of (ref03_Is _) ?_
  simp
  repeat refine ⟨by first | omega | assumption | (simp only [maxLen]; omega), ?_⟩
  refine hK _ ?_
  clear hK K
  refine AWp.cond rfl (fun h5 => ?_) (fun h5 => ?_)
  · try simp at h5
    -- region 2
    refine AWp.rseq E_ok [0, 2, 5] fun K hK => ?_
    simp [h5]
    repeat refine ⟨by first | omega | assumption | (simp only [maxLen]; omega), ?_⟩
    refine hK _ ?_
    clear hK K
    refine AWp.ret ?_
    repeat first | refine thenN ?_ | refine thenX ?_ | refine thenR ?_ | refine blockN ?_ | refine blockR ?_ | refine blockX ?_ | refine blockM rfl ?_
    simp [RetOk, RV, wday, h5]
  · try simp at h5
    refine AWp.skip ?_
    repeat first | refine thenN ?_ | refine thenX ?_ | refine thenR ?_ | refine blockN ?_ | refine blockR ?_ | refine blockX ?_ | refine blockM rfl ?_
    -- region 3
    refine AWp.rseq E_ok [0, 2, 5] fun K hK => ?_
    simp [h5]
    repeat refine ⟨by first | omega | assumption | (simp only [maxLen]; omega), ?_⟩
    refine hK _ ?_
    clear hK K
    refine AWp.ret ?_
    repeat first | refine thenN ?_ | refine thenX ?_ | refine thenR ?_ | refine blockN ?_ | refine blockR ?_ | refine blockX ?_ | refine blockM rfl ?_
    simp [RetOk, RV, wday, h5]
end Go.Proofs.Ytnmbnihbeggmgaa

set_option maxRecDepth 100000
set_option linter.unusedSimpArgs false
set_option linter.unusedVariables false
namespace Go.Proofs.Ytnmbnihbeggmgaa
open Go Ab Lib
theorem ref26_Open (c : Cal) (d : Int) (hcl : c.closed.length ≤ 1000000) : ACalls E.P 42 [encCal c, .int .i64 d] (.d (.bool (openR c d))) := by
  refine ACalls.intro E_ok Try.func42 rfl rfl Try.ntmps42 Try.results42 (Nat.le_of_ble_eq_true rfl) fun hok base S0 w0 => ?_
  -- region 0
  refine AWp.rseq E_ok [0, 1, 2, 4, 5, 6, 7, 8, 14, 21, 28, 33, 42] fun K hK => ?_
  simp [encCal_eq, encInts_eq]
  repeat refine ⟨by first | omega | assumption | (simp only [maxLen]; omega), ?_⟩
  refine hK _ ?_
  clear hK K
  refine AWp.seq ?_
  -- region 1
  refine AWp.rseq E_ok [0, 1, 2, 4, 5, 6, 7, 8, 14, 21, 28, 33, 42] fun K hK => ?_
  simp [encCal_eq, encInts_eq]
  repeat refine ⟨by first | omega | assumption | (simp only [maxLen]; omega), ?_⟩
  refine hK _ ?_
  clear hK K
  refine AWp.cond rfl (fun h14 => ?_) (fun h14 => ?_)
  · try simp at h14
    -- region 2
    refine AWp.rseq E_ok [0, 1, 2, 4, 5, 6, 7, 8, 14, 21, 28, 33, 42] fun K hK => ?_
    simp [encCal_eq, encInts_eq, h14]
    repeat refine ⟨by first | omega | assumption | (simp only [maxLen]; omega), ?_⟩
    refine hK _ ?_
    clear hK K
    refine AWp.ret ?_
    repeat first | refine thenN ?_ | refine thenX ?_ | refine thenR ?_ | refine blockN ?_ | refine blockR ?_ | refine blockX ?_ | refine blockM rfl ?_
    first | (rw [openR_out h14]; simp [RetOk, RV]; done) | (rw [openR_week h14 h28]; simp [RetOk, RV]; done) | (rw [openR_in h14 h28]; simp [RetOk, RV, ← hs])
  · try simp at h14
    have hw7 := wday_rng h14.1 h14.2
    refine AWp.skip ?_
    repeat first | refine thenN ?_ | refine thenX ?_ | refine thenR ?_ | refine blockN ?_ | refine blockR ?_ | refine blockX ?_ | refine blockM rfl ?_
    -- region 3
    refine AWp.rseq E_ok [0, 1, 2, 4, 5, 6, 7, 8, 14, 21, 28, 33, 42] fun K hK => ?_
    simp [encCal_eq, encInts_eq, h14]
    repeat refine ⟨by first | omega | assumption | (simp only [maxLen]; omega), ?_⟩
    refine hK _ ?_
    clear hK K
    -- region 4
    refine AWp.rseq E_ok [0, 1, 2, 4, 5, 6, 7, 8, 14, 21, 28, 33, 42] fun K hK => ?_
    simp [encCal_eq, encInts_eq, h14]
    refine meet.of (ref03_Weekday d) ?_
    simp [encCal_eq, encInts_eq, h14]
    repeat refine ⟨by first | omega | assumption | (simp only [maxLen]; omega), ?_⟩
    refine hK _ ?_
    clear hK K
    refine AWp.seq ?_
    -- region 5
    refine AWp.rseq E_ok [0, 1, 2, 4, 5, 6, 7, 8, 14, 21, 28, 33, 42] fun K hK => ?_
    simp [encCal_eq, encInts_eq, h14]
    repeat refine ⟨by first | omega | assumption | (simp only [maxLen]; omega), ?_⟩
    refine hK _ ?_
    clear hK K
    refine AWp.block ?_
    refine AWp.loop (ι := { k : Nat // k ≤ (wday d).toNat }) (fun x => match x with | ⟨k, hk⟩ => [(1, T.val (.int .i64 d)), (2, T.box [C.d (.int .i64 c.week), C.d (encInts c.closed)]), (5, T.val (.int .i64 (hv k c.week))), (6, T.val (.int .i64 (wday d))), (7, T.val (.int .i64 k))]) (fun x => match x with | ⟨k, hk⟩ => (wday d).toNat - k) ⟨0, by omega⟩ ?_ ?_
    · simp [Weak, TW, encCal_eq, encInts_eq]
    rintro ⟨k, hk⟩
    simp only
    refine AWp.seq ?_
    -- region 6
    refine AWp.rseq E_ok [0, 1, 2, 4, 5, 6, 7, 8, 14, 21, 28, 33, 42] fun K hK => ?_
    simp [encCal_eq, encInts_eq, h14]
    repeat refine ⟨by first | omega | assumption | (simp only [maxLen]; omega), ?_⟩
    refine hK _ ?_
    clear hK K
    refine AWp.cond rfl (fun h21 => ?_) (fun h21 => ?_)
    · try simp at h21
      refine AWp.skip ?_
      repeat first | refine thenN ?_ | refine thenX ?_ | refine thenR ?_ | refine blockN ?_ | refine blockR ?_ | refine blockX ?_ | refine blockM rfl ?_
      refine AWp.seq ?_
      refine AWp.block ?_
      -- region 8
      refine AWp.rend E_ok [0, 1, 2, 4, 5, 6, 7, 8, 14, 21, 28, 33, 42] fun K hK => ?_
      simp [encCal_eq, encInts_eq, h14, h21]
      repeat refine ⟨by first | omega | assumption | (simp only [maxLen]; omega), ?_⟩
      refine hK _ ?_
      clear hK K
      repeat first | refine thenN ?_ | refine thenX ?_ | refine thenR ?_ | refine blockN ?_ | refine blockR ?_ | refine blockX ?_ | refine blockM rfl ?_
      -- region 7
      refine AWp.rend E_ok [0, 1, 2, 4, 5, 6, 7, 8, 14, 21, 28, 33, 42] fun K hK => ?_
      simp [encCal_eq, encInts_eq, h14, h21]
      repeat refine ⟨by first | omega | assumption | (simp only [maxLen]; omega), ?_⟩
      refine hK _ ?_
      clear hK K
      repeat first | refine thenN ?_ | refine thenX ?_ | refine thenR ?_ | refine blockN ?_ | refine blockR ?_ | refine blockX ?_ | refine blockM rfl ?_
      have hw : IntKind.i64.wrap ((k : Int) + 1) = (k : Int) + 1 := by rw [wrap_i64] <;> omega
      refine ⟨⟨k + 1, by omega⟩, ?_, by simp only; omega⟩
      simp [Weak, TW, encCal_eq, encInts_eq, hv, hw]
    · try simp at h21
      obtain rfl : k = (wday d).toNat := by omega
      refine AWp.exit ?_
      repeat first | refine thenN ?_ | refine thenX ?_ | refine thenR ?_ | refine blockN ?_ | refine blockR ?_ | refine blockX ?_ | refine blockM rfl ?_
      refine AWp.seq ?_
      -- region 9
      refine AWp.rseq E_ok [0, 1, 2, 4, 5, 6, 7, 8, 14, 21, 28, 33, 42] fun K hK => ?_
      simp [encCal_eq, encInts_eq, h14, h21]
      repeat refine ⟨by first | omega | assumption | (simp only [maxLen]; omega), ?_⟩
      refine hK _ ?_
      clear hK K
      refine AWp.cond rfl (fun h28 => ?_) (fun h28 => ?_)
      · try simp at h28
        -- region 10
        refine AWp.rseq E_ok [0, 1, 2, 4, 5, 6, 7, 8, 14, 21, 28, 33, 42] fun K hK => ?_
        simp [encCal_eq, encInts_eq, h14, h21, h28]
        repeat refine ⟨by first | omega | assumption | (simp only [maxLen]; omega), ?_⟩
        refine hK _ ?_
        clear hK K
        refine AWp.ret ?_
        repeat first | refine thenN ?_ | refine thenX ?_ | refine thenR ?_ | refine blockN ?_ | refine blockR ?_ | refine blockX ?_ | refine blockM rfl ?_
        first | (rw [openR_out h14]; simp [RetOk, RV]; done) | (rw [openR_week h14 h28]; simp [RetOk, RV]; done) | (rw [openR_in h14 h28]; simp [RetOk, RV, ← hs])
      · try simp at h28
        refine AWp.skip ?_
        repeat first | refine thenN ?_ | refine thenX ?_ | refine thenR ?_ | refine blockN ?_ | refine blockR ?_ | refine blockX ?_ | refine blockM rfl ?_
        refine AWp.seq ?_
        -- region 11
        refine AWp.rseq E_ok [0, 1, 2, 4, 5, 6, 7, 8, 14, 21, 28, 33, 42] fun K hK => ?_
        simp [encCal_eq, encInts_eq, h14, h21, h28]
        repeat refine ⟨by first | omega | assumption | (simp only [maxLen]; omega), ?_⟩
        refine hK _ ?_
        clear hK K
        refine AWp.block ?_
        refine AWp.range (l := c.closed) (F := anyF d) (tot := anyF d () c.closed) (fun k y => match y with | _u => True) (fun k y => match y with | _u => [(1, T.val (.int .i64 d)), (2, T.box [C.d (.int .i64 c.week), C.d (encInts c.closed)]), (8, T.val (.int .i64 k))]) () ?_ rfl ?_ ?_
        · simp [Weak, TW, encCal_eq, encInts_eq]
        · first | exact trivial | (simp; omega) | simp
        rintro k _u hk hs hi
        try simp only at hi
        refine AWp.seq ?_
        -- region 12
        refine AWp.rseq E_ok [0, 1, 2, 4, 5, 6, 7, 8, 14, 21, 28, 33, 42] fun K hK => ?_
        simp [encCal_eq, encInts_eq, h14, h21, h28]
        repeat refine ⟨by first | omega | assumption | (simp only [maxLen]; omega), ?_⟩
        refine hK _ ?_
        clear hK K
        refine AWp.cond rfl (fun h33 => ?_) (fun h33 => ?_)
        · try simp at h33
          obtain ⟨x, hx, hx2, hd⟩ := at_indexG (l := c.closed) h33
          rw [hd] at hs
          refine AWp.skip ?_
          repeat first | refine thenN ?_ | refine thenX ?_ | refine thenR ?_ | refine blockN ?_ | refine blockR ?_ | refine blockX ?_ | refine blockM rfl ?_
          refine AWp.seq ?_
          refine AWp.block ?_
          -- region 14
          refine AWp.rseq E_ok [0, 1, 2, 4, 5, 6, 7, 8, 14, 21, 28, 33, 42] fun K hK => ?_
          simp [encCal_eq, encInts_eq, h14, h21, h28, h33, hx, hx2]
          repeat refine ⟨by first | omega | assumption | (simp only [maxLen]; omega), ?_⟩
          refine hK _ ?_
          clear hK K
          refine AWp.cond rfl (fun h42 => ?_) (fun h42 => ?_)
          · try simp at h42
            -- region 15
            refine AWp.rseq E_ok [0, 1, 2, 4, 5, 6, 7, 8, 14, 21, 28, 33, 42] fun K hK => ?_
            simp [encCal_eq, encInts_eq, h14, h21, h28, h33, hx, hx2, h42]
            repeat refine ⟨by first | omega | assumption | (simp only [maxLen]; omega), ?_⟩
            refine hK _ ?_
            clear hK K
            refine AWp.ret ?_
            repeat first | refine thenN ?_ | refine thenX ?_ | refine thenR ?_ | refine blockN ?_ | refine blockR ?_ | refine blockX ?_ | refine blockM rfl ?_
            simp [anyF, h14, h21, h28, h42] at hs
            first | (rw [openR_out h14]; simp [RetOk, RV]; done) | (rw [openR_week h14 h28]; simp [RetOk, RV]; done) | (rw [openR_in h14 h28]; simp [RetOk, RV, ← hs])
          · try simp at h42
            refine AWp.skip ?_
            repeat first | refine thenN ?_ | refine thenX ?_ | refine thenR ?_ | refine blockN ?_ | refine blockR ?_ | refine blockX ?_ | refine blockM rfl ?_
            -- region 13
            refine AWp.rend E_ok [0, 1, 2, 4, 5, 6, 7, 8, 14, 21, 28, 33, 42] fun K hK => ?_
            simp [encCal_eq, encInts_eq, h14, h21, h28, h33, hx, hx2, h42]
            repeat refine ⟨by first | omega | assumption | (simp only [maxLen]; omega), ?_⟩
            refine hK _ ?_
            clear hK K
            repeat first | refine thenN ?_ | refine thenX ?_ | refine thenR ?_ | refine blockN ?_ | refine blockR ?_ | refine blockX ?_ | refine blockM rfl ?_
            have hw : IntKind.i64.wrap ((k : Int) + 1) = (k : Int) + 1 := by rw [wrap_i64] <;> omega
            simp [anyF, h14, h21, h28, h42] at hs
            refine ⟨_, h33, hs, ?_, ?_⟩
            · first | exact trivial | (simp; omega) | simp
            · simp [Weak, TW, hw, encCal_eq, encInts_eq]
        · try simp at h33
          obtain rfl : k = c.closed.length := by omega
          simp [anyF] at hs
          refine AWp.exit ?_
          repeat first | refine thenN ?_ | refine thenX ?_ | refine thenR ?_ | refine blockN ?_ | refine blockR ?_ | refine blockX ?_ | refine blockM rfl ?_
          -- region 16
          refine AWp.rseq E_ok [0, 1, 2, 4, 5, 6, 7, 8, 14, 21, 28, 33, 42] fun K hK => ?_
          simp [encCal_eq, encInts_eq, h14, h21, h28, h33]
          repeat refine ⟨by first | omega | assumption | (simp only [maxLen]; omega), ?_⟩
          refine hK _ ?_
          clear hK K
          refine AWp.ret ?_
          repeat first | refine thenN ?_ | refine thenX ?_ | refine thenR ?_ | refine blockN ?_ | refine blockR ?_ | refine blockX ?_ | refine blockM rfl ?_
          first | (rw [openR_out h14]; simp [RetOk, RV]; done) | (rw [openR_week h14 h28]; simp [RetOk, RV]; done) | (rw [openR_in h14 h28]; simp [RetOk, RV, ← hs])
end Go.Proofs.Ytnmbnihbeggmgaa

set_option maxRecDepth 100000
set_option linter.unusedSimpArgs false
set_option linter.unusedVariables false
namespace Go.Proofs.Ytnmbnihbeggmgaa
open Go Ab Lib
theorem ref26_Count (c : Cal) (f t : Int) (hcl : c.closed.length ≤ 1000000) : ACalls E.P 31 [encCal c, .int .i64 f, .int .i64 t] (.d (.int .i64 (countD c f t))) := by
  refine ACalls.intro E_ok Try.func31 rfl rfl Try.ntmps31 Try.results31 (Nat.le_of_ble_eq_true rfl) fun hok base S0 w0 => ?_
  -- region 0
  refine AWp.rseq E_ok [0, 1, 2, 3, 6, 7, 8, 14, 19] fun K hK => ?_
  simp [encCal_eq, encInts_eq]
  repeat refine ⟨by first | omega | assumption | (simp only [maxLen]; omega), ?_⟩
  refine hK _ ?_
  clear hK K
  -- region 1
  refine AWp.rseq E_ok [0, 1, 2, 3, 6, 7, 8, 14, 19] fun K hK => ?_
  simp [encCal_eq, encInts_eq]
  repeat refine ⟨by first | omega | assumption | (simp only [maxLen]; omega), ?_⟩
  refine hK _ ?_
  clear hK K
  refine AWp.seq ?_
  -- region 2
  generalize hhi : (if 109572 < t then 109572 else t) = hi'
  have hhi0 : hi' ≤ 109572 := by rw [← hhi]; split <;> omega
  refine AWp.rseq E_ok [0, 1, 2, 3, 6, 7, 8, 14, 19] fun K hK => ?_
  simp [encCal_eq, encInts_eq]
  repeat refine ⟨by first | omega | assumption | (simp only [maxLen]; omega), ?_⟩
  refine hK _ ?_
  clear hK K
  generalize hlo : (if f < 0 then 0 else f) = lo
  have hlo0 : 0 ≤ lo := by rw [← hlo]; split <;> omega
  refine AWp.block ?_
  refine AWp.loop (ι := { x : Int × Int // lo ≤ x.1 ∧ cntN c (hi' + 1 - x.1).toNat x.1 x.2 = cntN c (hi' + 1 - lo).toNat lo 0 }) (fun x => match x with | ⟨⟨d, n⟩, hd, hs⟩ => [(2, T.val (.int .i64 t)), (3, T.box [C.d (.int .i64 c.week), C.d (encInts c.closed)]), (7, T.val (.int .i64 n)), (8, T.val (.int .i64 d))]) (fun x => match x with | ⟨⟨d, n⟩, hd, hs⟩ => (hi' + 1 - d).toNat) ⟨(lo, 0), Int.le_refl _, rfl⟩ ?_ ?_
  · simp [Weak, TW, encCal_eq, encInts_eq]
  rintro ⟨⟨d, n⟩, hd, hs⟩
  simp only
  refine AWp.seq ?_
  -- region 3
  refine AWp.rseq E_ok [0, 1, 2, 3, 6, 7, 8, 14, 19] fun K hK => ?_
  simp [encCal_eq, encInts_eq]
  repeat refine ⟨by first | omega | assumption | (simp only [maxLen]; omega), ?_⟩
  refine hK _ ?_
  clear hK K
  refine AWp.cond rfl (fun h14 => ?_) (fun h14 => ?_)
  · try simp at h14
    rw [hhi] at h14
    refine AWp.skip ?_
    repeat first | refine thenN ?_ | refine thenX ?_ | refine thenR ?_ | refine blockN ?_ | refine blockR ?_ | refine blockX ?_ | refine blockM rfl ?_
    refine AWp.seq ?_
    refine AWp.block ?_
    -- region 5
    refine AWp.rseq E_ok [0, 1, 2, 3, 6, 7, 8, 14, 19] fun K hK => ?_
    simp [encCal_eq, encInts_eq, h14]
    refine meet.of (ref26_Open c d (by omega)) ?_
    simp [encCal_eq, encInts_eq, h14]
    repeat refine ⟨by first | omega | assumption | (simp only [maxLen]; omega), ?_⟩
    refine hK _ ?_
    clear hK K
    refine AWp.cond rfl (fun h19 => ?_) (fun h19 => ?_)
    · try simp at h19
      -- region 6
      refine AWp.rend E_ok [0, 1, 2, 3, 6, 7, 8, 14, 19] fun K hK => ?_
      simp [encCal_eq, encInts_eq, h14, h19]
      repeat refine ⟨by first | omega | assumption | (simp only [maxLen]; omega), ?_⟩
      refine hK _ ?_
      clear hK K
      repeat first | refine thenN ?_ | refine thenX ?_ | refine thenR ?_ | refine blockN ?_ | refine blockR ?_ | refine blockX ?_ | refine blockM rfl ?_
      -- region 4
      refine AWp.rend E_ok [0, 1, 2, 3, 6, 7, 8, 14, 19] fun K hK => ?_
      simp [encCal_eq, encInts_eq, h14, h19]
      repeat refine ⟨by first | omega | assumption | (simp only [maxLen]; omega), ?_⟩
      refine hK _ ?_
      clear hK K
      repeat first | refine thenN ?_ | refine thenX ?_ | refine thenR ?_ | refine blockN ?_ | refine blockR ?_ | refine blockX ?_ | refine blockM rfl ?_
      have hw : IntKind.i64.wrap (d + 1) = d + 1 := by rw [wrap_i64] <;> omega
      have hz : (hi' + 1 - d).toNat = (hi' + 1 - (d + 1)).toNat + 1 := by omega
      rw [hz, cntN] at hs
      refine ⟨⟨(d + 1, if openR c d = true then IntKind.i64.wrap (n + 1) else n), by simp only at hd ⊢; omega, hs⟩, ?_, by simp only; omega⟩
      simp [Weak, TW, encCal_eq, encInts_eq, hw, h19]
    · try simp at h19
      refine AWp.skip ?_
      repeat first | refine thenN ?_ | refine thenX ?_ | refine thenR ?_ | refine blockN ?_ | refine blockR ?_ | refine blockX ?_ | refine blockM rfl ?_
      -- region 4
      refine AWp.rend E_ok [0, 1, 2, 3, 6, 7, 8, 14, 19] fun K hK => ?_
      simp [encCal_eq, encInts_eq, h14, h19]
      repeat refine ⟨by first | omega | assumption | (simp only [maxLen]; omega), ?_⟩
      refine hK _ ?_
      clear hK K
      repeat first | refine thenN ?_ | refine thenX ?_ | refine thenR ?_ | refine blockN ?_ | refine blockR ?_ | refine blockX ?_ | refine blockM rfl ?_
      have hw : IntKind.i64.wrap (d + 1) = d + 1 := by rw [wrap_i64] <;> omega
      have hz : (hi' + 1 - d).toNat = (hi' + 1 - (d + 1)).toNat + 1 := by omega
      rw [hz, cntN] at hs
      refine ⟨⟨(d + 1, if openR c d = true then IntKind.i64.wrap (n + 1) else n), by simp only at hd ⊢; omega, hs⟩, ?_, by simp only; omega⟩
      simp [Weak, TW, encCal_eq, encInts_eq, hw, h19]
  · try simp at h14
    rw [hhi] at h14
    have hz : (hi' + 1 - d).toNat = 0 := by omega
    rw [hz, cntN] at hs
    simp only at hs
    refine AWp.exit ?_
    repeat first | refine thenN ?_ | refine thenX ?_ | refine thenR ?_ | refine blockN ?_ | refine blockR ?_ | refine blockX ?_ | refine blockM rfl ?_
    -- region 7
    refine AWp.rseq E_ok [0, 1, 2, 3, 6, 7, 8, 14, 19] fun K hK => ?_
    simp [encCal_eq, encInts_eq, h14]
    repeat refine ⟨by first | omega | assumption | (simp only [maxLen]; omega), ?_⟩
    refine hK _ ?_
    clear hK K
    refine AWp.ret ?_
    repeat first | refine thenN ?_ | refine thenX ?_ | refine thenR ?_ | refine blockN ?_ | refine blockR ?_ | refine blockX ?_ | refine blockM rfl ?_
    rw [countD_eq hlo hhi]; simp [RetOk, RV, hs]
end Go.Proofs.Ytnmbnihbeggmgaa

set_option maxRecDepth 100000
set_option linter.unusedSimpArgs false
set_option linter.unusedVariables false
namespace Go.Proofs.Ytnmbnihbeggmgaa
open Go Ab Lib
theorem ref29_Late (r : Rule) (c : Cal) (d b : Int) (hcl : c.closed.length ≤ 1000000) : ACalls E.P 12 [encRule r, encCal c, .int .i64 d, .int .i64 b] (.d (.int .i64 (lateD r c d b))) := by
  refine ACalls.intro E_ok Try.func12 rfl rfl Try.ntmps12 Try.results12 (Nat.le_of_ble_eq_true rfl) fun hok base S0 w0 => ?_
  -- region 0
  refine AWp.rseq E_ok [0, 1, 2, 3, 4, 5, 8, 9, 22, 31] fun K hK => ?_
  simp [encCal_eq, encRule_eq, encInts_eq]
  repeat refine ⟨by first | omega | assumption | (simp only [maxLen]; omega), ?_⟩
  refine hK _ ?_
  clear hK K
  refine AWp.seq ?_
  -- region 1
  refine AWp.rseq E_ok [0, 1, 2, 3, 4, 5, 8, 9, 22, 31] fun K hK => ?_
  simp [encCal_eq, encRule_eq, encInts_eq]
  refine meet.of (ref26_Right _) ?_
  simp [encCal_eq, encRule_eq, encInts_eq]
  refine meet.of (ref29_day _) ?_
  simp [encCal_eq, encRule_eq, encInts_eq]
  refine meet.of (ref29_day _) ?_
  simp [encCal_eq, encRule_eq, encInts_eq]
  repeat refine ⟨by first | omega | assumption | (simp only [maxLen]; omega), ?_⟩
  refine hK _ ?_
  clear hK K
  refine AWp.cond rfl (fun h22 => ?_) (fun h22 => ?_)
  · try simp at h22
    -- region 2
    refine AWp.rseq E_ok [0, 1, 2, 3, 4, 5, 8, 9, 22, 31] fun K hK => ?_
    simp [encCal_eq, encRule_eq, encInts_eq, h22]
    repeat refine ⟨by first | omega | assumption | (simp only [maxLen]; omega), ?_⟩
    refine hK _ ?_
    clear hK K
    refine AWp.ret ?_
    repeat first | refine thenN ?_ | refine thenX ?_ | refine thenR ?_ | refine blockN ?_ | refine blockR ?_ | refine blockX ?_ | refine blockM rfl ?_
    first | (rw [lateD_bad h22]; simp [RetOk, RV]; done) | (rw [lateD_gr h22 h31]; simp [RetOk, RV]; done) | (rw [lateD_ok h22 h31]; simp [RetOk, RV])
  · try simp at h22
    refine AWp.skip ?_
    repeat first | refine thenN ?_ | refine thenX ?_ | refine thenR ?_ | refine blockN ?_ | refine blockR ?_ | refine blockX ?_ | refine blockM rfl ?_
    -- region 3
    refine AWp.rseq E_ok [0, 1, 2, 3, 4, 5, 8, 9, 22, 31] fun K hK => ?_
    simp [encCal_eq, encRule_eq, encInts_eq, h22]
    refine meet.of (ref26_Count c _ _ (by omega)) ?_
    simp [encCal_eq, encRule_eq, encInts_eq, h22]
    repeat refine ⟨by first | omega | assumption | (simp only [maxLen]; omega), ?_⟩
    refine hK _ ?_
    clear hK K
    refine AWp.seq ?_
    -- region 4
    refine AWp.rseq E_ok [0, 1, 2, 3, 4, 5, 8, 9, 22, 31] fun K hK => ?_
    simp [encCal_eq, encRule_eq, encInts_eq, h22]
    repeat refine ⟨by first | omega | assumption | (simp only [maxLen]; omega), ?_⟩
    refine hK _ ?_
    clear hK K
    refine AWp.cond rfl (fun h31 => ?_) (fun h31 => ?_)
    · try simp at h31
      -- region 5
      refine AWp.rseq E_ok [0, 1, 2, 3, 4, 5, 8, 9, 22, 31] fun K hK => ?_
      simp [encCal_eq, encRule_eq, encInts_eq, h22, h31]
      repeat refine ⟨by first | omega | assumption | (simp only [maxLen]; omega), ?_⟩
      refine hK _ ?_
      clear hK K
      refine AWp.ret ?_
      repeat first | refine thenN ?_ | refine thenX ?_ | refine thenR ?_ | refine blockN ?_ | refine blockR ?_ | refine blockX ?_ | refine blockM rfl ?_
      first | (rw [lateD_bad h22]; simp [RetOk, RV]; done) | (rw [lateD_gr h22 h31]; simp [RetOk, RV]; done) | (rw [lateD_ok h22 h31]; simp [RetOk, RV])
    · try simp at h31
      refine AWp.skip ?_
      repeat first | refine thenN ?_ | refine thenX ?_ | refine thenR ?_ | refine blockN ?_ | refine blockR ?_ | refine blockX ?_ | refine blockM rfl ?_
      -- region 6
      refine AWp.rseq E_ok [0, 1, 2, 3, 4, 5, 8, 9, 22, 31] fun K hK => ?_
      simp [encCal_eq, encRule_eq, encInts_eq, h22, h31]
      repeat refine ⟨by first | omega | assumption | (simp only [maxLen]; omega), ?_⟩
      refine hK _ ?_
      clear hK K
      refine AWp.ret ?_
      repeat first | refine thenN ?_ | refine thenX ?_ | refine thenR ?_ | refine blockN ?_ | refine blockR ?_ | refine blockX ?_ | refine blockM rfl ?_
      first | (rw [lateD_bad h22]; simp [RetOk, RV]; done) | (rw [lateD_gr h22 h31]; simp [RetOk, RV]; done) | (rw [lateD_ok h22 h31]; simp [RetOk, RV])
end Go.Proofs.Ytnmbnihbeggmgaa

set_option maxRecDepth 100000
set_option linter.unusedSimpArgs false
set_option linter.unusedVariables false
namespace Go.Proofs.Ytnmbnihbeggmgaa
open Go Ab Lib
theorem ref29_Late_t (r : Rule) (c : Cal) (d b : Int) (hcl : c.closed.length ≤ 1000000) : ACalls E.P 12 [encRule r, encCal c, .int .i64 d, .int .i64 b] (.d (.int .i64 (lateR r c d b))) := lateD_eq r c d b ▸ ref29_Late r c d b hcl

end Go.Proofs.Ytnmbnihbeggmgaa

set_option maxRecDepth 100000
set_option linter.unusedSimpArgs false
set_option linter.unusedVariables false
namespace Go.Proofs.Ytnmbnihbeggmgaa
open Go Ab Lib
theorem law29_FineLate (r : Rule) (c : Cal) (d b : Int) : ACalls E.P 3 [encRule r, encCal c, .int .i64 d, .int .i64 b] (.d (.bool true)) := by
  refine ACalls.intro E_ok Try.func3 rfl rfl Try.ntmps3 Try.results3 (Nat.le_of_ble_eq_true rfl) fun hok base S0 w0 => ?_
  have rg := lateR_rng (c := c) (d := d) (b := b) (Ok_i64 (Ok_agg (hok (encRule r) (by simp)) (.int .i64 r.maxFine) (by simp [encRule])))
  -- region 0
  refine AWp.rseq E_ok [0, 1, 2, 3, 4, 5, 8, 10, 37] fun K hK => ?_
  simp [encCal_eq, encRule_eq, encInts_eq]
  repeat refine ⟨by first | omega | assumption | (simp only [maxLen]; omega), ?_⟩
  refine hK _ ?_
  clear hK K
  refine AWp.seq ?_
  -- region 1
  refine AWp.rseq E_ok [0, 1, 2, 3, 4, 5, 8, 10, 37] fun K hK => ?_
  simp [encCal_eq, encRule_eq, encInts_eq]
  refine meet.of (law29_alive) ?_
  simp [encCal_eq, encRule_eq, encInts_eq]
  repeat refine ⟨by first | omega | assumption | (simp only [maxLen]; omega), ?_⟩
  refine hK _ ?_
  clear hK K
  refine AWp.cond rfl (fun h10 => ?_) (fun h10 => ?_)
  · exact absurd h10 (by simp)
  · try simp at h10
    refine AWp.skip ?_
    repeat first | refine thenN ?_ | refine thenX ?_ | refine thenR ?_ | refine blockN ?_ | refine blockR ?_ | refine blockX ?_ | refine blockM rfl ?_
    refine AWp.seq ?_
    -- region 3
    refine AWp.rseq E_ok [0, 1, 2, 3, 4, 5, 8, 10, 37] fun K hK => ?_
    simp [encCal_eq, encRule_eq, encInts_eq]
    refine meet.of (law29_rule _) ?_
    simp [encCal_eq, encRule_eq, encInts_eq]
    repeat refine ⟨by first | omega | assumption | (simp only [maxLen]; omega), ?_⟩
    refine hK _ ?_
    clear hK K
    refine AWp.cond rfl (fun h37 => ?_) (fun h37 => ?_)
    · try simp at h37
      -- region 4
      refine AWp.rseq E_ok [0, 1, 2, 3, 4, 5, 8, 10, 37] fun K hK => ?_
      simp [encCal_eq, encRule_eq, encInts_eq, h37]
      repeat refine ⟨by first | omega | assumption | (simp only [maxLen]; omega), ?_⟩
      refine hK _ ?_
      clear hK K
      refine AWp.ret ?_
      repeat first | refine thenN ?_ | refine thenX ?_ | refine thenR ?_ | refine blockN ?_ | refine blockR ?_ | refine blockX ?_ | refine blockM rfl ?_
      simp [RetOk, RV]
    · try simp at h37
      refine AWp.skip ?_
      repeat first | refine thenN ?_ | refine thenX ?_ | refine thenR ?_ | refine blockN ?_ | refine blockR ?_ | refine blockX ?_ | refine blockM rfl ?_
      -- region 5
      refine AWp.rseqQ E_ok mixed [0, 1, 2, 3, 4, 5, 8, 10, 37] (by kernel_rfl) fun K hK => ?_
      simp [encCal_eq, encRule_eq, encInts_eq, h37]
      repeat refine ⟨by first | omega | assumption | (simp only [maxLen]; omega), ?_⟩
      refine meet.of (fine_Late r c d b (by omega)) ?_
      simp [encCal_eq, encRule_eq, encInts_eq, h37]
      repeat refine ⟨by first | omega | assumption | (simp only [maxLen]; omega), ?_⟩
      refine meet.of (ref29_Late_t r c d b (by omega)) ?_
      simp [encCal_eq, encRule_eq, encInts_eq, h37]
      repeat refine ⟨by first | omega | assumption | (simp only [maxLen]; omega), ?_⟩
      refine hK _ ?_
      clear hK K
      refine AWp.ret ?_
      repeat first | refine thenN ?_ | refine thenX ?_ | refine thenR ?_ | refine blockN ?_ | refine blockR ?_ | refine blockX ?_ | refine blockM rfl ?_
      simp [RetOk, RV]
end Go.Proofs.Ytnmbnihbeggmgaa

set_option maxRecDepth 100000
set_option linter.unusedSimpArgs false
set_option linter.unusedVariables false
namespace Go.Proofs.Ytnmbnihbeggmgaa
open Go Ab Lib
theorem open_int : Opens Try.prog 3 (fun n => [D.int .i64 n]) (fun n => IntKind.min .i64 ≤ n ∧ n ≤ IntKind.max .i64) := Opens.int Try.underlying3
theorem openV_int : OpensV Try.prog 3 (fun n => D.int .i64 n) (fun n => IntKind.min .i64 ≤ n ∧ n ≤ IntKind.max .i64) := Opens.one open_int (cells_int' Try.underlying3)
theorem open_api_Errno : Opens Try.prog 32 (fun n => [D.int .i64 n]) (fun n => IntKind.min .i64 ≤ n ∧ n ≤ IntKind.max .i64) := Opens.int Try.underlying32
theorem openV_api_Errno : OpensV Try.prog 32 (fun n => D.int .i64 n) (fun n => IntKind.min .i64 ≤ n ∧ n ≤ IntKind.max .i64) := Opens.one open_api_Errno (cells_int' Try.underlying32)
theorem open_uint8 : Opens Try.prog 5 (fun n => [D.int .u8 n]) (fun n => IntKind.min .u8 ≤ n ∧ n ≤ IntKind.max .u8) := Opens.int Try.underlying5
theorem openV_uint8 : OpensV Try.prog 5 (fun n => D.int .u8 n) (fun n => IntKind.min .u8 ≤ n ∧ n ≤ IntKind.max .u8) := Opens.one open_uint8 (cells_int' Try.underlying5)
theorem open_bool : Opens Try.prog 4 (fun b => [D.bool b]) (fun _ => True) := Opens.bool Try.underlying4
theorem openV_bool : OpensV Try.prog 4 (fun b => D.bool b) (fun _ => True) := Opens.one open_bool (cells_bool' Try.underlying4)
theorem open_string : Opens Try.prog 9 (fun s => [D.str s]) (fun s => s.length ≤ Go.maxLen) := Opens.str Try.underlying9
theorem openV_string : OpensV Try.prog 9 (fun s => D.str s) (fun s => s.length ≤ Go.maxLen) := Opens.one open_string (cells_str' Try.underlying9)
theorem open_s_int : Opens Try.prog 24 (fun l : List Int => [encInts l]) (fun l => l.length ≤ Go.maxLen) :=
  (Opens.slice Try.underlying24 (by kernel_rfl) (by decide) open_int (D.int .i64) (fun _ => rfl) (.int .i64 0) rfl).map id (fun _ => rfl) (fun _ h => h.2)
theorem openV_s_int : OpensV Try.prog 24 encInts (fun l => l.length ≤ Go.maxLen) := Opens.one open_s_int (cells_slice' Try.underlying24)
theorem open_api_Charge : Opens Try.prog 44 (fun c : Charge => (encCharge c).cells) (fun _ => True) :=
  (Opens.struct Try.underlying44 (OpensF.cons (n := 1) rfl (by kernel_rfl) open_int (fun _ => rfl) (OpensF.cons (n := 1) rfl (by kernel_rfl) open_int (fun _ => rfl) (OpensF.cons (n := 1) rfl (by kernel_rfl) open_int (fun _ => rfl) (OpensF.cons (n := 1) rfl (by kernel_rfl) open_int (fun _ => rfl) (OpensF.cons (n := 1) rfl (by kernel_rfl) open_int (fun _ => rfl) (OpensF.cons (n := 1) rfl (by kernel_rfl) open_int (fun _ => rfl) (OpensF.cons (n := 1) rfl (by kernel_rfl) open_int (fun _ => rfl) OpensF.nil))))))) (fun _ => by kernel_rfl)).map (fun p => (⟨p.1, p.2.1, p.2.2.1, p.2.2.2.1, p.2.2.2.2.1, p.2.2.2.2.2.1, p.2.2.2.2.2.2.1⟩ : Charge)) (fun _ => rfl) (fun _ _ => trivial)
theorem openV_api_Charge : OpensV Try.prog 44 encCharge (fun _ => True) := Opens.agg Try.underlying44 open_api_Charge
theorem open_s_api_Charge : Opens Try.prog 31 (fun l : List Charge => [encCharges l]) (fun l => l.length ≤ Go.maxLen) :=
  (Opens.slice Try.underlying31 (by kernel_rfl) (by decide) open_api_Charge encCharge (fun _ => rfl) (encCharge z0) rfl).map id (fun _ => rfl) (fun _ h => h.2)
theorem openV_s_api_Charge : OpensV Try.prog 31 encCharges (fun l => l.length ≤ Go.maxLen) := Opens.one open_s_api_Charge (cells_slice' Try.underlying31)
theorem open_api_Rule : Opens Try.prog 23 (fun c : Rule => (encRule c).cells) (fun _ => True) :=
  (Opens.struct Try.underlying23 (OpensF.cons (n := 1) rfl (by kernel_rfl) open_int (fun _ => rfl) (OpensF.cons (n := 1) rfl (by kernel_rfl) open_int (fun _ => rfl) (OpensF.cons (n := 1) rfl (by kernel_rfl) open_int (fun _ => rfl) (OpensF.cons (n := 1) rfl (by kernel_rfl) open_int (fun _ => rfl) (OpensF.cons (n := 1) rfl (by kernel_rfl) open_int (fun _ => rfl) (OpensF.cons (n := 1) rfl (by kernel_rfl) open_int (fun _ => rfl) (OpensF.cons (n := 1) rfl (by kernel_rfl) open_int (fun _ => rfl) (OpensF.cons (n := 1) rfl (by kernel_rfl) open_int (fun _ => rfl) (OpensF.cons (n := 1) rfl (by kernel_rfl) open_int (fun _ => rfl) (OpensF.cons (n := 1) rfl (by kernel_rfl) open_int (fun _ => rfl) (OpensF.cons (n := 1) rfl (by kernel_rfl) open_int (fun _ => rfl) (OpensF.cons (n := 1) rfl (by kernel_rfl) open_int (fun _ => rfl) (OpensF.cons (n := 1) rfl (by kernel_rfl) open_int (fun _ => rfl) OpensF.nil))))))))))))) (fun _ => by kernel_rfl)).map (fun p => (⟨p.1, p.2.1, p.2.2.1, p.2.2.2.1, p.2.2.2.2.1, p.2.2.2.2.2.1, p.2.2.2.2.2.2.1, p.2.2.2.2.2.2.2.1, p.2.2.2.2.2.2.2.2.1, p.2.2.2.2.2.2.2.2.2.1, p.2.2.2.2.2.2.2.2.2.2.1, p.2.2.2.2.2.2.2.2.2.2.2.1, p.2.2.2.2.2.2.2.2.2.2.2.2.1⟩ : Rule)) (fun _ => rfl) (fun _ _ => trivial)
theorem openV_api_Rule : OpensV Try.prog 23 encRule (fun _ => True) := Opens.agg Try.underlying23 open_api_Rule
theorem open_api_Calendar : Opens Try.prog 26 (fun c : Cal => (encCal c).cells) (fun _ => True) :=
  (Opens.struct Try.underlying26 (OpensF.cons (n := 1) rfl (by kernel_rfl) open_int (fun _ => rfl) (OpensF.cons (n := 1) rfl (by kernel_rfl) open_s_int (fun _ => rfl) OpensF.nil)) (fun _ => by kernel_rfl)).map (fun p => (⟨p.1, p.2.1⟩ : Cal)) (fun _ => rfl) (fun _ _ => trivial)
theorem openV_api_Calendar : OpensV Try.prog 26 encCal (fun _ => True) := Opens.agg Try.underlying26 open_api_Calendar

end Go.Proofs.Ytnmbnihbeggmgaa
