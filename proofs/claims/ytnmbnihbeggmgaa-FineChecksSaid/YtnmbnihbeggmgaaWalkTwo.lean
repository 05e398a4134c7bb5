/-
  What the functions compute that the statement reaches: contracts, and the plain laws between them. Conditions stand at each theorem.
-/
import Derived.Test.YtnmbnihbeggmgaaWalkOne
set_option linter.unusedVariables false
set_option linter.unusedSimpArgs false
namespace Go.Proofs.Ytnmbnihbeggmgaa
open Go Ab
theorem a11a : ACalls E.P 11 [encRule r0, encCal c0, .int .i64 10, .int .i64 11] (.d (.int .i64 0)) := by
  have := f11 r0 c0 10 11 (by decide)
  rwa [show lateR r0 c0 10 11 = 0 by decide +kernel] at this
theorem a11b : ACalls E.P 11 [encRule r0, encCal c0, .int .i64 10, .int .i64 12] (.d (.int .i64 40)) := by
  have := f11 r0 c0 10 12 (by decide)
  rwa [show lateR r0 c0 10 12 = 40 by decide +kernel] at this
theorem a11c : ACalls E.P 11 [encRule r0, encCal c0, .int .i64 10, .int .i64 20] (.d (.int .i64 100)) := by
  have := f11 r0 c0 10 20 (by decide)
  rwa [show lateR r0 c0 10 20 = 100 by decide +kernel] at this
theorem a14a : ACalls E.P 14 [encCharges l0, .int .i64 5, .int .i64 220] (.tup [encCharges [⟨2, 5, 4, 9, 3, 50, 20⟩], .int .i64 0, .int .i64 0]) := by
  have := f14 l0 5 220 (by decide)
  rwa [show payR l0 5 220 = .tup [encCharges [⟨2, 5, 4, 9, 3, 50, 20⟩], .int .i64 0, .int .i64 0] by kernel_rfl] at this
theorem a14b : ACalls E.P 14 [encCharges l0, .int .i64 5, .int .i64 260] (.tup [encCharges [], .int .i64 10, .int .i64 0]) := by
  have := f14 l0 5 260 (by decide)
  rwa [show payR l0 5 260 = .tup [encCharges [], .int .i64 10, .int .i64 0] by kernel_rfl] at this
theorem a16 : ACalls E.P 16 [encCharges l0, .int .i64 5] (.d (.int .i64 250)) := by
  have := f16 l0 5
  rwa [show owedF 5 0 l0 = 250 by decide +kernel] at this
theorem a19 : ACalls E.P 19 [encCharges l0, .int .i64 1] (.tup [encCharges [⟨2, 5, 4, 9, 3, 50, 0⟩], .int .i64 100, .int .i64 0]) := by
  have := f19 l0 1 (by decide)
  rwa [show waiveR l0 1 = .tup [encCharges [⟨2, 5, 4, 9, 3, 50, 0⟩], .int .i64 100, .int .i64 0] by kernel_rfl] at this
end Go.Proofs.Ytnmbnihbeggmgaa

set_option maxRecDepth 100000
set_option linter.unusedSimpArgs false
namespace Go.Proofs.Ytnmbnihbeggmgaa
open Go Ab
theorem f9  : ACalls E.P 9 [] (.d (.bool true)) := by
  refine ACalls.intro E_ok Try.func9 rfl rfl Try.ntmps9 Try.results9 (Nat.le_of_ble_eq_true rfl) fun hok base S0 w0 => ?_
  -- region 0
  refine AWp.rseq E_ok [0, 1, 2, 3, 4, 5, 6, 7, 8, 9, 11, 12, 30, 69] fun K hK => ?_
  simp [encCharges_eq, encCharge_eq]
  repeat refine ⟨by first | omega | (simp only [maxLen]; omega), ?_⟩
  refine hK _ ?_
  clear hK K
  -- region 1
  refine AWp.rseq E_ok [0, 1, 2, 3, 4, 5, 6, 7, 8, 9, 11, 12, 30, 69] fun K hK => ?_
  simp [encCharges_eq, encCharge_eq]
  repeat refine ⟨by first | omega | (simp only [maxLen]; omega), ?_⟩
  refine hK _ ?_
  clear hK K
  -- region 2
  refine AWp.rseq E_ok [0, 1, 2, 3, 4, 5, 6, 7, 8, 9, 11, 12, 30, 69] fun K hK => ?_
  simp [encCharges_eq, encCharge_eq]
  repeat refine ⟨by first | omega | (simp only [maxLen]; omega), ?_⟩
  refine hK _ ?_
  clear hK K
  refine AWp.seq ?_
  -- region 3
  refine AWp.rseq E_ok [0, 1, 2, 3, 4, 5, 6, 7, 8, 9, 11, 12, 30, 69] fun K hK => ?_
  simp [encCharges_eq, encCharge_eq]
  refine meet.of (a11a) ?_
  simp [encCharges_eq, encCharge_eq]
  refine meet.of (a11b) ?_
  simp [encCharges_eq, encCharge_eq]
  refine meet.of (a11c) ?_
  simp [encCharges_eq, encCharge_eq]
  repeat refine ⟨by first | omega | (simp only [maxLen]; omega), ?_⟩
  refine hK _ ?_
  clear hK K
  refine AWp.cond rfl (fun h30 => ?_) (fun h30 => ?_)
  · exact absurd h30 (by simp)
  · try simp at h30
    refine AWp.skip ?_
    repeat first | refine thenN ?_ | refine thenX ?_ | refine thenR ?_ | refine blockN ?_ | refine blockR ?_ | refine blockX ?_ | refine blockM rfl ?_
    -- region 5
    refine AWp.rseq E_ok [0, 1, 2, 3, 4, 5, 6, 7, 8, 9, 11, 12, 30, 69] fun K hK => ?_
    simp [encCharges_eq, encCharge_eq]
    repeat refine ⟨by first | omega | (simp only [maxLen]; omega), ?_⟩
    refine hK _ ?_
    clear hK K
    -- region 6
    refine AWp.rseq E_ok [0, 1, 2, 3, 4, 5, 6, 7, 8, 9, 11, 12, 30, 69] fun K hK => ?_
    simp [encCharges_eq, encCharge_eq]
    refine meet.of (a14a) ?_
    simp [encCharges_eq, encCharge_eq]
    repeat refine ⟨by first | omega | (simp only [maxLen]; omega), ?_⟩
    refine hK _ ?_
    clear hK K
    refine AWp.seq ?_
    -- region 7
    refine AWp.rseq E_ok [0, 1, 2, 3, 4, 5, 6, 7, 8, 9, 11, 12, 30, 69] fun K hK => ?_
    simp [encCharges_eq, encCharge_eq]
    refine meet.of (a16) ?_
    simp [encCharges_eq, encCharge_eq]
    repeat refine ⟨by first | omega | (simp only [maxLen]; omega), ?_⟩
    refine hK _ ?_
    clear hK K
    refine AWp.cond rfl (fun h69 => ?_) (fun h69 => ?_)
    · exact absurd h69 (by simp)
    · try simp at h69
      refine AWp.skip ?_
      repeat first | refine thenN ?_ | refine thenX ?_ | refine thenR ?_ | refine blockN ?_ | refine blockR ?_ | refine blockX ?_ | refine blockM rfl ?_
      -- region 9
      refine AWp.rseq E_ok [0, 1, 2, 3, 4, 5, 6, 7, 8, 9, 11, 12, 30, 69] fun K hK => ?_
      simp [encCharges_eq, encCharge_eq]
      refine meet.of (a14b) ?_
      simp [encCharges_eq, encCharge_eq]
      repeat refine ⟨by first | omega | (simp only [maxLen]; omega), ?_⟩
      refine hK _ ?_
      clear hK K
      -- region 10
      refine AWp.rseq E_ok [0, 1, 2, 3, 4, 5, 6, 7, 8, 9, 11, 12, 30, 69] fun K hK => ?_
      simp [encCharges_eq, encCharge_eq]
      refine meet.of (a19) ?_
      simp [encCharges_eq, encCharge_eq]
      repeat refine ⟨by first | omega | (simp only [maxLen]; omega), ?_⟩
      refine hK _ ?_
      clear hK K
      -- region 11
      refine AWp.rseq E_ok [0, 1, 2, 3, 4, 5, 6, 7, 8, 9, 11, 12, 30, 69] fun K hK => ?_
      simp [encCharges_eq, encCharge_eq]
      repeat refine ⟨by first | omega | (simp only [maxLen]; omega), ?_⟩
      refine hK _ ?_
      clear hK K
      refine AWp.ret ?_
      repeat first | refine thenN ?_ | refine thenX ?_ | refine thenR ?_ | refine blockN ?_ | refine blockR ?_ | refine blockX ?_ | refine blockM rfl ?_
      simp [RetOk, RV, RVs]

end Go.Proofs.Ytnmbnihbeggmgaa

set_option maxRecDepth 100000
set_option linter.unusedSimpArgs false
namespace Go.Proofs.Ytnmbnihbeggmgaa
open Go Ab
theorem f15 (l : List Charge) (p a : Int) (hl : l.length ≤ 1000000) : ACalls E.P 15 [encCharges l, .int .i64 p, .int .i64 a] (payR l p a) := by
  refine ACalls.intro E_ok Try.func15 rfl rfl Try.ntmps15 Try.results15 (Nat.le_of_ble_eq_true rfl) fun hok base S0 w0 => ?_
  -- region 0
  refine AWp.rseq E_ok [0, 1, 2, 6, 7, 8, 9, 10, 11, 12, 18, 22, 32, 52] fun K hK => ?_
  simp [encCharges_eq]
  repeat refine ⟨by first | omega | (simp only [maxLen]; omega), ?_⟩
  refine hK _ ?_
  clear hK K
  refine AWp.seq ?_
  -- region 1
  refine AWp.rseq E_ok [0, 1, 2, 6, 7, 8, 9, 10, 11, 12, 18, 22, 32, 52] fun K hK => ?_
  simp [encCharges_eq]
  repeat refine ⟨by first | omega | (simp only [maxLen]; omega), ?_⟩
  refine hK _ ?_
  clear hK K
  refine AWp.cond rfl (fun h18 => ?_) (fun h18 => ?_)
  · try simp at h18
    -- region 2
    refine AWp.rseq E_ok [0, 1, 2, 6, 7, 8, 9, 10, 11, 12, 18, 22, 32, 52] fun K hK => ?_
    simp [encCharges_eq, h18]
    repeat refine ⟨by first | omega | (simp only [maxLen]; omega), ?_⟩
    refine hK _ ?_
    clear hK K
    refine AWp.ret ?_
    repeat first | refine thenN ?_ | refine thenX ?_ | refine thenR ?_ | refine blockN ?_ | refine blockR ?_ | refine blockX ?_ | refine blockM rfl ?_
    first | (rw [payR_bad h18]; simp [RetOk, RV, RVs, encCharges_eq]; done) | (rw [payR_good h18]; simp [RetOk, RV, RVs, ← hs, encCharges_eq])
  · try simp at h18
    refine AWp.skip ?_
    repeat first | refine thenN ?_ | refine thenX ?_ | refine thenR ?_ | refine blockN ?_ | refine blockR ?_ | refine blockX ?_ | refine blockM rfl ?_
    -- region 3
    refine AWp.rseq E_ok [0, 1, 2, 6, 7, 8, 9, 10, 11, 12, 18, 22, 32, 52] fun K hK => ?_
    simp [encCharges_eq, h18]
    repeat refine ⟨by first | omega | (simp only [maxLen]; omega), ?_⟩
    refine hK _ ?_
    clear hK K
    refine AWp.seq ?_
    -- region 4
    refine AWp.rseq E_ok [0, 1, 2, 6, 7, 8, 9, 10, 11, 12, 18, 22, 32, 52] fun K hK => ?_
    simp [encCharges_eq, h18]
    repeat refine ⟨by first | omega | (simp only [maxLen]; omega), ?_⟩
    refine hK _ ?_
    clear hK K
    refine AWp.block ?_
    refine AWp.range (l := l) (F := payF p) (tot := payF p (a, []) l) (fun k y => match y with | (r, o) => o.length ≤ k) (fun k y => match y with | (r, o) => [(0, T.val (encCharges l)), (1, T.val (.int .i64 p)), (2, T.val (.int .i64 r)), (9, T.own true (encCharge z0) (o.map encCharge)), (10, T.val (.int .i64 k))]) (a, []) ?_ rfl ?_ ?_
    · simp [Weak, TW, encCharges_eq]
    · first | exact trivial | (simp; omega) | simp
    rintro k ⟨r, o⟩ hk hs hi
    try simp only at hi
    refine AWp.seq ?_
    -- region 5
    refine AWp.rseq E_ok [0, 1, 2, 6, 7, 8, 9, 10, 11, 12, 18, 22, 32, 52] fun K hK => ?_
    simp [encCharges_eq, h18]
    repeat refine ⟨by first | omega | (simp only [maxLen]; omega), ?_⟩
    refine hK _ ?_
    clear hK K
    refine AWp.cond rfl (fun h22 => ?_) (fun h22 => ?_)
    · try simp at h22
      obtain ⟨x, hx, hx2, hd⟩ := at_indexG (l := l) h22
      rw [hd] at hs
      refine AWp.skip ?_
      repeat first | refine thenN ?_ | refine thenX ?_ | refine thenR ?_ | refine blockN ?_ | refine blockR ?_ | refine blockX ?_ | refine blockM rfl ?_
      refine AWp.seq ?_
      refine AWp.block ?_
      -- region 7
      refine AWp.rseq E_ok [0, 1, 2, 6, 7, 8, 9, 10, 11, 12, 18, 22, 32, 52] fun K hK => ?_
      simp [encCharges_eq, h18, h22, hx, hx2]
      repeat refine ⟨by first | omega | (simp only [maxLen]; omega), ?_⟩
      refine hK _ ?_
      clear hK K
      refine AWp.seq ?_
      -- region 8
      refine AWp.rseq E_ok [0, 1, 2, 6, 7, 8, 9, 10, 11, 12, 18, 22, 32, 52] fun K hK => ?_
      simp [encCharges_eq, h18, h22, hx, hx2]
      repeat refine ⟨by first | omega | (simp only [maxLen]; omega), ?_⟩
      refine hK _ ?_
      clear hK K
      refine AWp.cond rfl (fun h32 => ?_) (fun h32 => ?_)
      · try simp at h32
        try rw [← Int.not_lt] at h32
        -- region 9
        refine AWp.rseq E_ok [0, 1, 2, 6, 7, 8, 9, 10, 11, 12, 18, 22, 32, 52] fun K hK => ?_
        simp [encCharges_eq, h18, h22, hx, hx2, h32]
        repeat refine ⟨by first | omega | (simp only [maxLen]; omega), ?_⟩
        refine hK _ ?_
        clear hK K
        -- region 10
        refine AWp.rseq E_ok [0, 1, 2, 6, 7, 8, 9, 10, 11, 12, 18, 22, 32, 52] fun K hK => ?_
        simp [encCharges_eq, h18, h22, hx, hx2, h32]
        repeat refine ⟨by first | omega | (simp only [maxLen]; omega), ?_⟩
        refine hK _ ?_
        clear hK K
        -- region 11
        refine AWp.rend E_ok [0, 1, 2, 6, 7, 8, 9, 10, 11, 12, 18, 22, 32, 52] fun K hK => ?_
        simp [encCharges_eq, h18, h22, hx, hx2, h32]
        repeat refine ⟨by first | omega | (simp only [maxLen]; omega), ?_⟩
        refine hK _ ?_
        clear hK K
        repeat first | refine thenN ?_ | refine thenX ?_ | refine thenR ?_ | refine blockN ?_ | refine blockR ?_ | refine blockX ?_ | refine blockM rfl ?_
        -- region 12
        refine AWp.rseq E_ok [0, 1, 2, 6, 7, 8, 9, 10, 11, 12, 18, 22, 32, 52] fun K hK => ?_
        simp [encCharges_eq, h18, h22, hx, hx2, h32]
        repeat refine ⟨by first | omega | (simp only [maxLen]; omega), ?_⟩
        refine hK _ ?_
        clear hK K
        refine AWp.cond rfl (fun h52 => ?_) (fun h52 => ?_)
        · try simp at h52
          try rw [← Int.not_lt] at h52
          -- region 13
          refine AWp.rend E_ok [0, 1, 2, 6, 7, 8, 9, 10, 11, 12, 18, 22, 32, 52] fun K hK => ?_
          simp [encCharges_eq, h18, h22, hx, hx2, h32, h52]
          repeat refine ⟨by first | omega | (simp only [maxLen]; omega), ?_⟩
          refine hK _ ?_
          clear hK K
          repeat first | refine thenN ?_ | refine thenX ?_ | refine thenR ?_ | refine blockN ?_ | refine blockR ?_ | refine blockX ?_ | refine blockM rfl ?_
          -- region 6
          refine AWp.rend E_ok [0, 1, 2, 6, 7, 8, 9, 10, 11, 12, 18, 22, 32, 52] fun K hK => ?_
          simp [encCharges_eq, h18, h22, hx, hx2, h32, h52]
          repeat refine ⟨by first | omega | (simp only [maxLen]; omega), ?_⟩
          refine hK _ ?_
          clear hK K
          repeat first | refine thenN ?_ | refine thenX ?_ | refine thenR ?_ | refine blockN ?_ | refine blockR ?_ | refine blockX ?_ | refine blockM rfl ?_
          have hw : IntKind.i64.wrap ((k : Int) + 1) = (k : Int) + 1 := by rw [wrap_i64] <;> omega
          simp [payF, h18, h32, h52, payStep, encCharge] at hs
          refine ⟨_, h22, hs, ?_, ?_⟩
          · first | exact trivial | (simp; omega) | simp
          · simp [Weak, TW, hw, encCharges_eq, payStep, encCharge]
        · try simp at h52
          try rw [← Int.not_lt] at h52
          refine AWp.skip ?_
          repeat first | refine thenN ?_ | refine thenX ?_ | refine thenR ?_ | refine blockN ?_ | refine blockR ?_ | refine blockX ?_ | refine blockM rfl ?_
          -- region 6
          refine AWp.rend E_ok [0, 1, 2, 6, 7, 8, 9, 10, 11, 12, 18, 22, 32, 52] fun K hK => ?_
          simp [encCharges_eq, h18, h22, hx, hx2, h32, h52]
          repeat refine ⟨by first | omega | (simp only [maxLen]; omega), ?_⟩
          refine hK _ ?_
          clear hK K
          repeat first | refine thenN ?_ | refine thenX ?_ | refine thenR ?_ | refine blockN ?_ | refine blockR ?_ | refine blockX ?_ | refine blockM rfl ?_
          have hw : IntKind.i64.wrap ((k : Int) + 1) = (k : Int) + 1 := by rw [wrap_i64] <;> omega
          simp [payF, h18, h32, h52, payStep, encCharge] at hs
          refine ⟨_, h22, hs, ?_, ?_⟩
          · first | exact trivial | (simp; omega) | simp
          · simp [Weak, TW, hw, encCharges_eq, payStep, encCharge]
      · try simp at h32
        try rw [← Int.not_lt] at h32
        refine AWp.skip ?_
        repeat first | refine thenN ?_ | refine thenX ?_ | refine thenR ?_ | refine blockN ?_ | refine blockR ?_ | refine blockX ?_ | refine blockM rfl ?_
        -- region 12
        refine AWp.rseq E_ok [0, 1, 2, 6, 7, 8, 9, 10, 11, 12, 18, 22, 32, 52] fun K hK => ?_
        simp [encCharges_eq, h18, h22, hx, hx2, h32]
        repeat refine ⟨by first | omega | (simp only [maxLen]; omega), ?_⟩
        refine hK _ ?_
        clear hK K
        refine AWp.cond rfl (fun h52 => ?_) (fun h52 => ?_)
        · try simp at h52
          try rw [← Int.not_lt] at h52
          -- region 13
          refine AWp.rend E_ok [0, 1, 2, 6, 7, 8, 9, 10, 11, 12, 18, 22, 32, 52] fun K hK => ?_
          simp [encCharges_eq, h18, h22, hx, hx2, h32, h52]
          repeat refine ⟨by first | omega | (simp only [maxLen]; omega), ?_⟩
          refine hK _ ?_
          clear hK K
          repeat first | refine thenN ?_ | refine thenX ?_ | refine thenR ?_ | refine blockN ?_ | refine blockR ?_ | refine blockX ?_ | refine blockM rfl ?_
          -- region 6
          refine AWp.rend E_ok [0, 1, 2, 6, 7, 8, 9, 10, 11, 12, 18, 22, 32, 52] fun K hK => ?_
          simp [encCharges_eq, h18, h22, hx, hx2, h32, h52]
          repeat refine ⟨by first | omega | (simp only [maxLen]; omega), ?_⟩
          refine hK _ ?_
          clear hK K
          repeat first | refine thenN ?_ | refine thenX ?_ | refine thenR ?_ | refine blockN ?_ | refine blockR ?_ | refine blockX ?_ | refine blockM rfl ?_
          have hw : IntKind.i64.wrap ((k : Int) + 1) = (k : Int) + 1 := by rw [wrap_i64] <;> omega
          simp [payF, h18, h32, h52, payStep, encCharge] at hs
          refine ⟨_, h22, hs, ?_, ?_⟩
          · first | exact trivial | (simp; omega) | simp
          · simp [Weak, TW, hw, encCharges_eq, payStep, encCharge]
        · try simp at h52
          try rw [← Int.not_lt] at h52
          refine AWp.skip ?_
          repeat first | refine thenN ?_ | refine thenX ?_ | refine thenR ?_ | refine blockN ?_ | refine blockR ?_ | refine blockX ?_ | refine blockM rfl ?_
          -- region 6
          refine AWp.rend E_ok [0, 1, 2, 6, 7, 8, 9, 10, 11, 12, 18, 22, 32, 52] fun K hK => ?_
          simp [encCharges_eq, h18, h22, hx, hx2, h32, h52]
          repeat refine ⟨by first | omega | (simp only [maxLen]; omega), ?_⟩
          refine hK _ ?_
          clear hK K
          repeat first | refine thenN ?_ | refine thenX ?_ | refine thenR ?_ | refine blockN ?_ | refine blockR ?_ | refine blockX ?_ | refine blockM rfl ?_
          have hw : IntKind.i64.wrap ((k : Int) + 1) = (k : Int) + 1 := by rw [wrap_i64] <;> omega
          simp [payF, h18, h32, h52, payStep, encCharge] at hs
          refine ⟨_, h22, hs, ?_, ?_⟩
          · first | exact trivial | (simp; omega) | simp
          · simp [Weak, TW, hw, encCharges_eq, payStep, encCharge]
    · try simp at h22
      obtain rfl : k = l.length := by omega
      simp [payF] at hs
      refine AWp.exit ?_
      repeat first | refine thenN ?_ | refine thenX ?_ | refine thenR ?_ | refine blockN ?_ | refine blockR ?_ | refine blockX ?_ | refine blockM rfl ?_
      -- region 14
      refine AWp.rseq E_ok [0, 1, 2, 6, 7, 8, 9, 10, 11, 12, 18, 22, 32, 52] fun K hK => ?_
      simp [encCharges_eq, h18, h22]
      repeat refine ⟨by first | omega | (simp only [maxLen]; omega), ?_⟩
      refine hK _ ?_
      clear hK K
      refine AWp.ret ?_
      repeat first | refine thenN ?_ | refine thenX ?_ | refine thenR ?_ | refine blockN ?_ | refine blockR ?_ | refine blockX ?_ | refine blockM rfl ?_
      first | (rw [payR_bad h18]; simp [RetOk, RV, RVs, encCharges_eq]; done) | (rw [payR_good h18]; simp [RetOk, RV, RVs, ← hs, encCharges_eq])

end Go.Proofs.Ytnmbnihbeggmgaa

set_option maxRecDepth 100000
set_option linter.unusedSimpArgs false
namespace Go.Proofs.Ytnmbnihbeggmgaa
open Go Ab
theorem f17 (l : List Charge) (p : Int) : ACalls E.P 17 [encCharges l, .int .i64 p] (.d (.int .i64 (owedG p 0 l))) := by
  refine ACalls.intro E_ok Try.func17 rfl rfl Try.ntmps17 Try.results17 (Nat.le_of_ble_eq_true rfl) fun hok base S0 w0 => ?_
  have hl : l.length ≤ 9223372036854775807 := by have := (Ok_slice (hok (encCharges l) (by simp))).1; simpa using this
  -- region 0
  refine AWp.rseq E_ok [0, 1, 4, 5, 6, 10, 19] fun K hK => ?_
  simp [encCharges_eq]
  repeat refine ⟨by first | omega | (simp only [maxLen]; omega), ?_⟩
  refine hK _ ?_
  clear hK K
  -- region 1
  refine AWp.rseq E_ok [0, 1, 4, 5, 6, 10, 19] fun K hK => ?_
  simp [encCharges_eq]
  repeat refine ⟨by first | omega | (simp only [maxLen]; omega), ?_⟩
  refine hK _ ?_
  clear hK K
  refine AWp.seq ?_
  -- region 2
  refine AWp.rseq E_ok [0, 1, 4, 5, 6, 10, 19] fun K hK => ?_
  simp [encCharges_eq]
  repeat refine ⟨by first | omega | (simp only [maxLen]; omega), ?_⟩
  refine hK _ ?_
  clear hK K
  refine AWp.block ?_
  refine AWp.range (l := l) (F := owedG p) (tot := owedG p 0 l) (fun k y => match y with | s => True) (fun k y => match y with | s => [(0, T.val (encCharges l)), (1, T.val (.int .i64 p)), (5, T.val (.int .i64 s)), (6, T.val (.int .i64 k))]) (0) ?_ rfl ?_ ?_
  · simp [Weak, TW, encCharges_eq]
  · first | exact trivial | (simp; omega) | simp
  rintro k s hk hs hi
  try simp only at hi
  refine AWp.seq ?_
  -- region 3
  refine AWp.rseq E_ok [0, 1, 4, 5, 6, 10, 19] fun K hK => ?_
  simp [encCharges_eq]
  repeat refine ⟨by first | omega | (simp only [maxLen]; omega), ?_⟩
  refine hK _ ?_
  clear hK K
  refine AWp.cond rfl (fun h10 => ?_) (fun h10 => ?_)
  · try simp at h10
    obtain ⟨x, hx, hx2, hd⟩ := at_indexG (l := l) h10
    rw [hd] at hs
    refine AWp.skip ?_
    repeat first | refine thenN ?_ | refine thenX ?_ | refine thenR ?_ | refine blockN ?_ | refine blockR ?_ | refine blockX ?_ | refine blockM rfl ?_
    refine AWp.seq ?_
    refine AWp.block ?_
    -- region 5
    refine AWp.rseq E_ok [0, 1, 4, 5, 6, 10, 19] fun K hK => ?_
    simp [encCharges_eq, h10, hx, hx2]
    repeat refine ⟨by first | omega | (simp only [maxLen]; omega), ?_⟩
    refine hK _ ?_
    clear hK K
    refine AWp.cond rfl (fun h19 => ?_) (fun h19 => ?_)
    · try simp at h19
      -- region 6
      refine AWp.rendQ E_ok mixed [0, 1, 4, 5, 6, 10, 19] (by kernel_rfl) fun K hK => ?_
      simp [encCharges_eq, h10, hx, hx2, h19]
      repeat refine ⟨by first | omega | (simp only [maxLen]; omega), ?_⟩
      refine hK _ ?_
      clear hK K
      repeat first | refine thenN ?_ | refine thenX ?_ | refine thenR ?_ | refine blockN ?_ | refine blockR ?_ | refine blockX ?_ | refine blockM rfl ?_
      -- region 4
      refine AWp.rend E_ok [0, 1, 4, 5, 6, 10, 19] fun K hK => ?_
      simp [encCharges_eq, h10, hx, hx2, h19]
      repeat refine ⟨by first | omega | (simp only [maxLen]; omega), ?_⟩
      refine hK _ ?_
      clear hK K
      repeat first | refine thenN ?_ | refine thenX ?_ | refine thenR ?_ | refine blockN ?_ | refine blockR ?_ | refine blockX ?_ | refine blockM rfl ?_
      have hw : IntKind.i64.wrap ((k : Int) + 1) = (k : Int) + 1 := by rw [wrap_i64] <;> omega
      simp [owedG, h19] at hs
      refine ⟨_, h10, hs, ?_, ?_⟩
      · first | exact trivial | (simp; omega) | simp
      · simp [Weak, TW, hw, encCharges_eq]
    · try simp at h19
      refine AWp.skip ?_
      repeat first | refine thenN ?_ | refine thenX ?_ | refine thenR ?_ | refine blockN ?_ | refine blockR ?_ | refine blockX ?_ | refine blockM rfl ?_
      -- region 4
      refine AWp.rend E_ok [0, 1, 4, 5, 6, 10, 19] fun K hK => ?_
      simp [encCharges_eq, h10, hx, hx2, h19]
      repeat refine ⟨by first | omega | (simp only [maxLen]; omega), ?_⟩
      refine hK _ ?_
      clear hK K
      repeat first | refine thenN ?_ | refine thenX ?_ | refine thenR ?_ | refine blockN ?_ | refine blockR ?_ | refine blockX ?_ | refine blockM rfl ?_
      have hw : IntKind.i64.wrap ((k : Int) + 1) = (k : Int) + 1 := by rw [wrap_i64] <;> omega
      simp [owedG, h19] at hs
      refine ⟨_, h10, hs, ?_, ?_⟩
      · first | exact trivial | (simp; omega) | simp
      · simp [Weak, TW, hw, encCharges_eq]
  · try simp at h10
    obtain rfl : k = l.length := by omega
    simp [owedG] at hs
    refine AWp.exit ?_
    repeat first | refine thenN ?_ | refine thenX ?_ | refine thenR ?_ | refine blockN ?_ | refine blockR ?_ | refine blockX ?_ | refine blockM rfl ?_
    -- region 7
    refine AWp.rseq E_ok [0, 1, 4, 5, 6, 10, 19] fun K hK => ?_
    simp [encCharges_eq, h10]
    repeat refine ⟨by first | omega | (simp only [maxLen]; omega), ?_⟩
    refine hK _ ?_
    clear hK K
    refine AWp.ret ?_
    repeat first | refine thenN ?_ | refine thenX ?_ | refine thenR ?_ | refine blockN ?_ | refine blockR ?_ | refine blockX ?_ | refine blockM rfl ?_
    simp [RetOk, RV, hs]

end Go.Proofs.Ytnmbnihbeggmgaa

set_option maxRecDepth 100000
set_option linter.unusedSimpArgs false
namespace Go.Proofs.Ytnmbnihbeggmgaa
open Go Ab
theorem f13 (l : List Charge) : ACalls E.P 13 [encCharges l] (.d (.int .i64 (rightR l))) := by
  refine ACalls.intro E_ok Try.func13 rfl rfl Try.ntmps13 Try.results13 (Nat.le_of_ble_eq_true rfl) fun hok base S0 w0 => ?_
  have hl : l.length ≤ 9223372036854775807 := by have := (Ok_slice (hok (encCharges l) (by simp))).1; simpa using this
  -- region 0
  refine AWp.rseq E_ok [0, 2, 3, 4, 7, 11, 30, 64, 72, 92] fun K hK => ?_
  simp [encCharges_eq]
  repeat refine ⟨by first | omega | (simp only [maxLen]; omega), ?_⟩
  refine hK _ ?_
  clear hK K
  refine AWp.seq ?_
  -- region 1
  refine AWp.rseq E_ok [0, 2, 3, 4, 7, 11, 30, 64, 72, 92] fun K hK => ?_
  simp [encCharges_eq]
  repeat refine ⟨by first | omega | (simp only [maxLen]; omega), ?_⟩
  refine hK _ ?_
  clear hK K
  refine AWp.cond rfl (fun h7 => ?_) (fun h7 => ?_)
  · try simp at h7
    -- region 2
    refine AWp.rseq E_ok [0, 2, 3, 4, 7, 11, 30, 64, 72, 92] fun K hK => ?_
    simp [encCharges_eq, h7]
    repeat refine ⟨by first | omega | (simp only [maxLen]; omega), ?_⟩
    refine hK _ ?_
    clear hK K
    refine AWp.ret ?_
    repeat first | refine thenN ?_ | refine thenX ?_ | refine thenR ?_ | refine blockN ?_ | refine blockR ?_ | refine blockX ?_ | refine blockM rfl ?_
    first | (rw [rightR_full h7]; simp [RetOk, RV]; done) | (rw [rightR_ok h7]; simp [RetOk, RV, ← hs])
  · try simp at h7
    refine AWp.skip ?_
    repeat first | refine thenN ?_ | refine thenX ?_ | refine thenR ?_ | refine blockN ?_ | refine blockR ?_ | refine blockX ?_ | refine blockM rfl ?_
    refine AWp.seq ?_
    -- region 3
    refine AWp.rseq E_ok [0, 2, 3, 4, 7, 11, 30, 64, 72, 92] fun K hK => ?_
    simp [encCharges_eq, h7]
    repeat refine ⟨by first | omega | (simp only [maxLen]; omega), ?_⟩
    refine hK _ ?_
    clear hK K
    refine AWp.block ?_
    refine AWp.range (l := l) (F := rightF) (tot := rightF none l) (fun k y => match y with | pr => pr = if k = 0 then none else (l[k-1]?).map Charge.id) (fun k y => match y with | pr => [(0, T.val (encCharges l)), (3, T.val (.int .i64 k))]) (none) ?_ rfl ?_ ?_
    · simp [Weak, TW, encCharges_eq]
    · first | rfl | (simp [hx])
    rintro k pr hk hs hi
    try simp only at hi
    refine AWp.seq ?_
    -- region 4
    refine AWp.rseq E_ok [0, 2, 3, 4, 7, 11, 30, 64, 72, 92] fun K hK => ?_
    simp [encCharges_eq, h7]
    repeat refine ⟨by first | omega | (simp only [maxLen]; omega), ?_⟩
    refine hK _ ?_
    clear hK K
    refine AWp.cond rfl (fun h11 => ?_) (fun h11 => ?_)
    · try simp at h11
      obtain ⟨x, hx, hx2, hd⟩ := at_indexG (l := l) h11
      rw [hd] at hs
      refine AWp.skip ?_
      repeat first | refine thenN ?_ | refine thenX ?_ | refine thenR ?_ | refine blockN ?_ | refine blockR ?_ | refine blockX ?_ | refine blockM rfl ?_
      refine AWp.seq ?_
      refine AWp.block ?_
      -- region 6
      refine AWp.rseq E_ok [0, 2, 3, 4, 7, 11, 30, 64, 72, 92] fun K hK => ?_
      simp [encCharges_eq, h7, h11, hx, hx2]
      repeat refine ⟨by first | omega | (simp only [maxLen]; omega), ?_⟩
      refine hK _ ?_
      clear hK K
      refine AWp.seq ?_
      rcases Nat.eq_zero_or_pos k with hk0 | hk0
      · skip
        have hpr : pr = none := by simpa [hk0] using hi
        have hk1 : ¬ (0 < k) := by omega
        have hlo : lowId pr x.id = false := by rw [hpr]; rfl
        -- region 7
        refine AWp.rseqQ E_ok mixed [0, 2, 3, 4, 7, 11, 30, 64, 72, 92] (by kernel_rfl) fun K hK => ?_
        simp [encCharges_eq, h7, h11, hx, hx2, hk1]
        repeat refine ⟨by first | omega | (simp only [maxLen]; omega), ?_⟩
        refine hK _ ?_
        clear hK K
        refine AWp.cond rfl (fun h30 => ?_) (fun h30 => ?_)
        · exact absurd h30 (by simp)
        · try simp at h30
          have hlo : lowId pr x.id = false := by rw [hpr]; first | rfl | simpa [lowId] using h30
          refine AWp.skip ?_
          repeat first | refine thenN ?_ | refine thenX ?_ | refine thenR ?_ | refine blockN ?_ | refine blockR ?_ | refine blockX ?_ | refine blockM rfl ?_
          refine AWp.seq ?_
          -- region 9
          refine AWp.rseq E_ok [0, 2, 3, 4, 7, 11, 30, 64, 72, 92] fun K hK => ?_
          simp [encCharges_eq, h7, h11, hx, hx2, hk1, h30]
          refine meet.of (f30 _) ?_
          simp [encCharges_eq, h7, h11, hx, hx2, hk1, h30]
          repeat refine ⟨by first | omega | (simp only [maxLen]; omega), ?_⟩
          refine hK _ ?_
          clear hK K
          refine AWp.cond rfl (fun h64 => ?_) (fun h64 => ?_)
          · try simp at h64
            have hc := chk2a h64
            -- region 10
            refine AWp.rseq E_ok [0, 2, 3, 4, 7, 11, 30, 64, 72, 92] fun K hK => ?_
            simp [encCharges_eq, h7, h11, hx, hx2, hk1, h30, h64]
            repeat refine ⟨by first | omega | (simp only [maxLen]; omega), ?_⟩
            refine hK _ ?_
            clear hK K
            refine AWp.ret ?_
            repeat first | refine thenN ?_ | refine thenX ?_ | refine thenR ?_ | refine blockN ?_ | refine blockR ?_ | refine blockX ?_ | refine blockM rfl ?_
            first | simp [rightF, hlo, hc] at hs | simp [rightF, hlo] at hs | simp [rightF] at hs
            first | (rw [rightR_full h7]; simp [RetOk, RV]; done) | (rw [rightR_ok h7]; simp [RetOk, RV, ← hs])
          · try simp at h64
            refine AWp.skip ?_
            repeat first | refine thenN ?_ | refine thenX ?_ | refine thenR ?_ | refine blockN ?_ | refine blockR ?_ | refine blockX ?_ | refine blockM rfl ?_
            refine AWp.seq ?_
            -- region 11
            refine AWp.rseq E_ok [0, 2, 3, 4, 7, 11, 30, 64, 72, 92] fun K hK => ?_
            simp [encCharges_eq, h7, h11, hx, hx2, hk1, h30, h64]
            repeat refine ⟨by first | omega | (simp only [maxLen]; omega), ?_⟩
            refine hK _ ?_
            clear hK K
            refine AWp.cond rfl (fun h72 => ?_) (fun h72 => ?_)
            · try simp at h72
              have hc := chk1 h64 h72
              -- region 12
              refine AWp.rseq E_ok [0, 2, 3, 4, 7, 11, 30, 64, 72, 92] fun K hK => ?_
              simp [encCharges_eq, h7, h11, hx, hx2, hk1, h30, h64, h72]
              repeat refine ⟨by first | omega | (simp only [maxLen]; omega), ?_⟩
              refine hK _ ?_
              clear hK K
              refine AWp.ret ?_
              repeat first | refine thenN ?_ | refine thenX ?_ | refine thenR ?_ | refine blockN ?_ | refine blockR ?_ | refine blockX ?_ | refine blockM rfl ?_
              first | simp [rightF, hlo, hc] at hs | simp [rightF, hlo] at hs | simp [rightF] at hs
              first | (rw [rightR_full h7]; simp [RetOk, RV]; done) | (rw [rightR_ok h7]; simp [RetOk, RV, ← hs])
            · try simp at h72
              refine AWp.skip ?_
              repeat first | refine thenN ?_ | refine thenX ?_ | refine thenR ?_ | refine blockN ?_ | refine blockR ?_ | refine blockX ?_ | refine blockM rfl ?_
              -- region 13
              refine AWp.rseq E_ok [0, 2, 3, 4, 7, 11, 30, 64, 72, 92] fun K hK => ?_
              simp [encCharges_eq, h7, h11, hx, hx2, hk1, h30, h64, h72]
              repeat refine ⟨by first | omega | (simp only [maxLen]; omega), ?_⟩
              refine hK _ ?_
              clear hK K
              refine AWp.cond rfl (fun h92 => ?_) (fun h92 => ?_)
              · try simp at h92
                have hc := chk2b h64 h72 h92
                -- region 14
                refine AWp.rseq E_ok [0, 2, 3, 4, 7, 11, 30, 64, 72, 92] fun K hK => ?_
                simp [encCharges_eq, h7, h11, hx, hx2, hk1, h30, h64, h72, h92]
                repeat refine ⟨by first | omega | (simp only [maxLen]; omega), ?_⟩
                refine hK _ ?_
                clear hK K
                refine AWp.ret ?_
                repeat first | refine thenN ?_ | refine thenX ?_ | refine thenR ?_ | refine blockN ?_ | refine blockR ?_ | refine blockX ?_ | refine blockM rfl ?_
                first | simp [rightF, hlo, hc] at hs | simp [rightF, hlo] at hs | simp [rightF] at hs
                first | (rw [rightR_full h7]; simp [RetOk, RV]; done) | (rw [rightR_ok h7]; simp [RetOk, RV, ← hs])
              · try simp at h92
                have hc := chk0 h64 h72 h92
                refine AWp.skip ?_
                repeat first | refine thenN ?_ | refine thenX ?_ | refine thenR ?_ | refine blockN ?_ | refine blockR ?_ | refine blockX ?_ | refine blockM rfl ?_
                -- region 5
                refine AWp.rend E_ok [0, 2, 3, 4, 7, 11, 30, 64, 72, 92] fun K hK => ?_
                simp [encCharges_eq, h7, h11, hx, hx2, hk1, h30, h64, h72, h92]
                repeat refine ⟨by first | omega | (simp only [maxLen]; omega), ?_⟩
                refine hK _ ?_
                clear hK K
                repeat first | refine thenN ?_ | refine thenX ?_ | refine thenR ?_ | refine blockN ?_ | refine blockR ?_ | refine blockX ?_ | refine blockM rfl ?_
                have hw : IntKind.i64.wrap ((k : Int) + 1) = (k : Int) + 1 := by rw [wrap_i64] <;> omega
                simp [rightF, hlo, hc] at hs
                refine ⟨_, h11, hs, ?_, ?_⟩
                · first | rfl | (simp [hx])
                · simp [Weak, TW, hw, encCharges_eq]
      · skip
        obtain ⟨j, hkj⟩ : ∃ j, k = j + 1 := ⟨k - 1, by omega⟩
        obtain ⟨y, hy1, hy2, _⟩ := at_indexG (l := l) (k := j) (by omega)
        have hj0 : IntKind.i64.wrap ((k : Int) - 1) = (j : Int) := by rw [wrap_i64] <;> omega
        have hj1 : j < l.length := by omega
        have hpr : pr = some y.id := by simpa [hkj, hy1] using hi
        -- region 7
        refine AWp.rseqQ E_ok mixed [0, 2, 3, 4, 7, 11, 30, 64, 72, 92] (by kernel_rfl) fun K hK => ?_
        simp [encCharges_eq, h7, h11, hx, hx2, hk0, hj0, hy1, hy2, hj1]
        repeat refine ⟨by first | omega | (simp only [maxLen]; omega), ?_⟩
        refine hK _ ?_
        clear hK K
        refine AWp.cond rfl (fun h30 => ?_) (fun h30 => ?_)
        · try simp at h30
          have hlo : lowId pr x.id = true := by rw [hpr]; simpa [lowId] using h30
          -- region 8
          refine AWp.rseq E_ok [0, 2, 3, 4, 7, 11, 30, 64, 72, 92] fun K hK => ?_
          simp [encCharges_eq, h7, h11, hx, hx2, hk0, hj0, hy1, hy2, hj1, h30]
          repeat refine ⟨by first | omega | (simp only [maxLen]; omega), ?_⟩
          refine hK _ ?_
          clear hK K
          refine AWp.ret ?_
          repeat first | refine thenN ?_ | refine thenX ?_ | refine thenR ?_ | refine blockN ?_ | refine blockR ?_ | refine blockX ?_ | refine blockM rfl ?_
          first | simp [rightF, hlo, hc] at hs | simp [rightF, hlo] at hs | simp [rightF] at hs
          first | (rw [rightR_full h7]; simp [RetOk, RV]; done) | (rw [rightR_ok h7]; simp [RetOk, RV, ← hs])
        · try simp at h30
          have hlo : lowId pr x.id = false := by rw [hpr]; first | rfl | simpa [lowId] using h30
          refine AWp.skip ?_
          repeat first | refine thenN ?_ | refine thenX ?_ | refine thenR ?_ | refine blockN ?_ | refine blockR ?_ | refine blockX ?_ | refine blockM rfl ?_
          refine AWp.seq ?_
          -- region 9
          refine AWp.rseq E_ok [0, 2, 3, 4, 7, 11, 30, 64, 72, 92] fun K hK => ?_
          simp [encCharges_eq, h7, h11, hx, hx2, hk0, hj0, hy1, hy2, hj1, h30]
          refine meet.of (f30 _) ?_
          simp [encCharges_eq, h7, h11, hx, hx2, hk0, hj0, hy1, hy2, hj1, h30]
          repeat refine ⟨by first | omega | (simp only [maxLen]; omega), ?_⟩
          refine hK _ ?_
          clear hK K
          refine AWp.cond rfl (fun h64 => ?_) (fun h64 => ?_)
          · try simp at h64
            have hc := chk2a h64
            -- region 10
            refine AWp.rseq E_ok [0, 2, 3, 4, 7, 11, 30, 64, 72, 92] fun K hK => ?_
            simp [encCharges_eq, h7, h11, hx, hx2, hk0, hj0, hy1, hy2, hj1, h30, h64]
            repeat refine ⟨by first | omega | (simp only [maxLen]; omega), ?_⟩
            refine hK _ ?_
            clear hK K
            refine AWp.ret ?_
            repeat first | refine thenN ?_ | refine thenX ?_ | refine thenR ?_ | refine blockN ?_ | refine blockR ?_ | refine blockX ?_ | refine blockM rfl ?_
            first | simp [rightF, hlo, hc] at hs | simp [rightF, hlo] at hs | simp [rightF] at hs
            first | (rw [rightR_full h7]; simp [RetOk, RV]; done) | (rw [rightR_ok h7]; simp [RetOk, RV, ← hs])
          · try simp at h64
            refine AWp.skip ?_
            repeat first | refine thenN ?_ | refine thenX ?_ | refine thenR ?_ | refine blockN ?_ | refine blockR ?_ | refine blockX ?_ | refine blockM rfl ?_
            refine AWp.seq ?_
            -- region 11
            refine AWp.rseq E_ok [0, 2, 3, 4, 7, 11, 30, 64, 72, 92] fun K hK => ?_
            simp [encCharges_eq, h7, h11, hx, hx2, hk0, hj0, hy1, hy2, hj1, h30, h64]
            repeat refine ⟨by first | omega | (simp only [maxLen]; omega), ?_⟩
            refine hK _ ?_
            clear hK K
            refine AWp.cond rfl (fun h72 => ?_) (fun h72 => ?_)
            · try simp at h72
              have hc := chk1 h64 h72
              -- region 12
              refine AWp.rseq E_ok [0, 2, 3, 4, 7, 11, 30, 64, 72, 92] fun K hK => ?_
              simp [encCharges_eq, h7, h11, hx, hx2, hk0, hj0, hy1, hy2, hj1, h30, h64, h72]
              repeat refine ⟨by first | omega | (simp only [maxLen]; omega), ?_⟩
              refine hK _ ?_
              clear hK K
              refine AWp.ret ?_
              repeat first | refine thenN ?_ | refine thenX ?_ | refine thenR ?_ | refine blockN ?_ | refine blockR ?_ | refine blockX ?_ | refine blockM rfl ?_
              first | simp [rightF, hlo, hc] at hs | simp [rightF, hlo] at hs | simp [rightF] at hs
              first | (rw [rightR_full h7]; simp [RetOk, RV]; done) | (rw [rightR_ok h7]; simp [RetOk, RV, ← hs])
            · try simp at h72
              refine AWp.skip ?_
              repeat first | refine thenN ?_ | refine thenX ?_ | refine thenR ?_ | refine blockN ?_ | refine blockR ?_ | refine blockX ?_ | refine blockM rfl ?_
              -- region 13
              refine AWp.rseq E_ok [0, 2, 3, 4, 7, 11, 30, 64, 72, 92] fun K hK => ?_
              simp [encCharges_eq, h7, h11, hx, hx2, hk0, hj0, hy1, hy2, hj1, h30, h64, h72]
              repeat refine ⟨by first | omega | (simp only [maxLen]; omega), ?_⟩
              refine hK _ ?_
              clear hK K
              refine AWp.cond rfl (fun h92 => ?_) (fun h92 => ?_)
              · try simp at h92
                have hc := chk2b h64 h72 h92
                -- region 14
                refine AWp.rseq E_ok [0, 2, 3, 4, 7, 11, 30, 64, 72, 92] fun K hK => ?_
                simp [encCharges_eq, h7, h11, hx, hx2, hk0, hj0, hy1, hy2, hj1, h30, h64, h72, h92]
                repeat refine ⟨by first | omega | (simp only [maxLen]; omega), ?_⟩
                refine hK _ ?_
                clear hK K
                refine AWp.ret ?_
                repeat first | refine thenN ?_ | refine thenX ?_ | refine thenR ?_ | refine blockN ?_ | refine blockR ?_ | refine blockX ?_ | refine blockM rfl ?_
                first | simp [rightF, hlo, hc] at hs | simp [rightF, hlo] at hs | simp [rightF] at hs
                first | (rw [rightR_full h7]; simp [RetOk, RV]; done) | (rw [rightR_ok h7]; simp [RetOk, RV, ← hs])
              · try simp at h92
                have hc := chk0 h64 h72 h92
                refine AWp.skip ?_
                repeat first | refine thenN ?_ | refine thenX ?_ | refine thenR ?_ | refine blockN ?_ | refine blockR ?_ | refine blockX ?_ | refine blockM rfl ?_
                -- region 5
                refine AWp.rend E_ok [0, 2, 3, 4, 7, 11, 30, 64, 72, 92] fun K hK => ?_
                simp [encCharges_eq, h7, h11, hx, hx2, hk0, hj0, hy1, hy2, hj1, h30, h64, h72, h92]
                repeat refine ⟨by first | omega | (simp only [maxLen]; omega), ?_⟩
                refine hK _ ?_
                clear hK K
                repeat first | refine thenN ?_ | refine thenX ?_ | refine thenR ?_ | refine blockN ?_ | refine blockR ?_ | refine blockX ?_ | refine blockM rfl ?_
                have hw : IntKind.i64.wrap ((k : Int) + 1) = (k : Int) + 1 := by rw [wrap_i64] <;> omega
                simp [rightF, hlo, hc] at hs
                refine ⟨_, h11, hs, ?_, ?_⟩
                · first | rfl | (simp [hx])
                · simp [Weak, TW, hw, encCharges_eq]
    · try simp at h11
      obtain rfl : k = l.length := by omega
      simp [rightF] at hs
      refine AWp.exit ?_
      repeat first | refine thenN ?_ | refine thenX ?_ | refine thenR ?_ | refine blockN ?_ | refine blockR ?_ | refine blockX ?_ | refine blockM rfl ?_
      -- region 15
      refine AWp.rseq E_ok [0, 2, 3, 4, 7, 11, 30, 64, 72, 92] fun K hK => ?_
      simp [encCharges_eq, h7, h11]
      repeat refine ⟨by first | omega | (simp only [maxLen]; omega), ?_⟩
      refine hK _ ?_
      clear hK K
      refine AWp.ret ?_
      repeat first | refine thenN ?_ | refine thenX ?_ | refine thenR ?_ | refine blockN ?_ | refine blockR ?_ | refine blockX ?_ | refine blockM rfl ?_
      first | (rw [rightR_full h7]; simp [RetOk, RV]; done) | (rw [rightR_ok h7]; simp [RetOk, RV, ← hs])

end Go.Proofs.Ytnmbnihbeggmgaa

set_option maxRecDepth 100000
set_option linter.unusedSimpArgs false
namespace Go.Proofs.Ytnmbnihbeggmgaa
open Go Ab
theorem f18 (a b : List Charge) : ACalls E.P 18 [encCharges a, encCharges b] (.d (.bool (decide (a = b)))) := by
  refine ACalls.intro E_ok Try.func18 rfl rfl Try.ntmps18 Try.results18 (Nat.le_of_ble_eq_true rfl) fun hok base S0 w0 => ?_
  have hl : a.length ≤ 9223372036854775807 := by have := (Ok_slice (hok (encCharges a) (by simp))).1; simpa using this
  -- region 0
  refine AWp.rseq E_ok [0, 1, 4, 5, 10, 14, 25] fun K hK => ?_
  simp [encCharges_eq]
  repeat refine ⟨by first | omega | (simp only [maxLen]; omega), ?_⟩
  refine hK _ ?_
  clear hK K
  refine AWp.seq ?_
  -- region 1
  refine AWp.rseq E_ok [0, 1, 4, 5, 10, 14, 25] fun K hK => ?_
  simp [encCharges_eq]
  repeat refine ⟨by first | omega | (simp only [maxLen]; omega), ?_⟩
  refine hK _ ?_
  clear hK K
  refine AWp.cond rfl (fun h10 => ?_) (fun h10 => ?_)
  · try simp at h10
    -- region 2
    refine AWp.rseq E_ok [0, 1, 4, 5, 10, 14, 25] fun K hK => ?_
    simp [encCharges_eq]
    repeat refine ⟨by first | omega | (simp only [maxLen]; omega), ?_⟩
    refine hK _ ?_
    clear hK K
    refine AWp.ret ?_
    repeat first | refine thenN ?_ | refine thenX ?_ | refine thenR ?_ | refine blockN ?_ | refine blockR ?_ | refine blockX ?_ | refine blockM rfl ?_
    first | (simp [RetOk, RV]; intro e; exact h10 (by rw [e])) | (simp [RetOk, RV]; exact hne) | (simp [RetOk, RV]; exact hall)
  · try simp at h10
    have hab : b.length = a.length := by omega
    refine AWp.skip ?_
    repeat first | refine thenN ?_ | refine thenX ?_ | refine thenR ?_ | refine blockN ?_ | refine blockR ?_ | refine blockX ?_ | refine blockM rfl ?_
    refine AWp.seq ?_
    -- region 3
    refine AWp.rseq E_ok [0, 1, 4, 5, 10, 14, 25] fun K hK => ?_
    simp [encCharges_eq]
    repeat refine ⟨by first | omega | (simp only [maxLen]; omega), ?_⟩
    refine hK _ ?_
    clear hK K
    refine AWp.block ?_
    refine AWp.range (l := a) (F := sameF) (tot := decide (a = b)) (fun k y => match y with | r => r = b.drop k) (fun k y => match y with | r => [(0, T.val (encCharges a)), (1, T.val (encCharges b)), (5, T.val (.int .i64 k))]) (b) ?_ rfl ?_ ?_
    · simp [Weak, TW, encCharges_eq]
    · first | exact trivial | (simp; omega) | simp
    rintro k r hk hs hi
    try simp only at hi
    refine AWp.seq ?_
    -- region 4
    refine AWp.rseq E_ok [0, 1, 4, 5, 10, 14, 25] fun K hK => ?_
    simp [encCharges_eq]
    repeat refine ⟨by first | omega | (simp only [maxLen]; omega), ?_⟩
    refine hK _ ?_
    clear hK K
    refine AWp.cond rfl (fun h14 => ?_) (fun h14 => ?_)
    · try simp at h14
      obtain ⟨y, hy1, hy2, hyd⟩ := at_indexG (l := b) (k := k) (by omega)
      have hkb : k < b.length := by omega
      rw [hi, hyd] at hs
      obtain ⟨x, hx, hx2, hd⟩ := at_indexG (l := a) h14
      rw [hd] at hs
      refine AWp.skip ?_
      repeat first | refine thenN ?_ | refine thenX ?_ | refine thenR ?_ | refine blockN ?_ | refine blockR ?_ | refine blockX ?_ | refine blockM rfl ?_
      refine AWp.seq ?_
      refine AWp.block ?_
      -- region 6
      refine AWp.rseqQ E_ok mixed [0, 1, 4, 5, 10, 14, 25] (by kernel_rfl) fun K hK => ?_
      simp [encCharges_eq, h14, hx, hx2]
      repeat refine ⟨by first | omega | (simp only [maxLen]; omega), ?_⟩
      refine hK _ ?_
      clear hK K
      refine AWp.cond rfl (fun h25 => ?_) (fun h25 => ?_)
      · try simp at h25
        have hxy : ¬ x = y := by intro e; subst e; simp [hy1] at h25
        have hne : ¬ a = b := by intro e; rw [e] at hx; rw [hx] at hy1; exact hxy (by simpa using hy1)
        -- region 7
        refine AWp.rseq E_ok [0, 1, 4, 5, 10, 14, 25] fun K hK => ?_
        simp [encCharges_eq, h14, hx, hx2, h25]
        repeat refine ⟨by first | omega | (simp only [maxLen]; omega), ?_⟩
        refine hK _ ?_
        clear hK K
        refine AWp.ret ?_
        repeat first | refine thenN ?_ | refine thenX ?_ | refine thenR ?_ | refine blockN ?_ | refine blockR ?_ | refine blockX ?_ | refine blockM rfl ?_
        first | (simp [RetOk, RV]; intro e; exact h10 (by rw [e])) | (simp [RetOk, RV]; exact hne) | (simp [RetOk, RV]; exact hall)
      · try simp at h25
        have hxy : x = y := by rw [hy1] at h25; simp at h25; cases x; cases y; simp_all
        have hs2 : sameF (b.drop (k + 1)) (a.drop (k + 1)) = decide (a = b) := by rw [← hs, hxy]; simp [sameF]
        refine AWp.skip ?_
        repeat first | refine thenN ?_ | refine thenX ?_ | refine thenR ?_ | refine blockN ?_ | refine blockR ?_ | refine blockX ?_ | refine blockM rfl ?_
        -- region 5
        refine AWp.rend E_ok [0, 1, 4, 5, 10, 14, 25] fun K hK => ?_
        simp [encCharges_eq, h14, hx, hx2, h25]
        repeat refine ⟨by first | omega | (simp only [maxLen]; omega), ?_⟩
        refine hK _ ?_
        clear hK K
        repeat first | refine thenN ?_ | refine thenX ?_ | refine thenR ?_ | refine blockN ?_ | refine blockR ?_ | refine blockX ?_ | refine blockM rfl ?_
        have hw : IntKind.i64.wrap ((k : Int) + 1) = (k : Int) + 1 := by rw [wrap_i64] <;> omega
        have hs := hs2
        refine ⟨_, h14, hs, ?_, ?_⟩
        · first | exact trivial | (simp; omega) | simp
        · simp [Weak, TW, hw, encCharges_eq]
    · try simp at h14
      have hall : a = b := by have e1 : a.drop k = [] := List.drop_eq_nil_of_le (by omega); have e2 : b.drop k = [] := List.drop_eq_nil_of_le (by omega); rw [hi, e1, e2] at hs; simpa [sameF] using hs.symm
      obtain rfl : k = a.length := by omega
      refine AWp.exit ?_
      repeat first | refine thenN ?_ | refine thenX ?_ | refine thenR ?_ | refine blockN ?_ | refine blockR ?_ | refine blockX ?_ | refine blockM rfl ?_
      -- region 8
      refine AWp.rseq E_ok [0, 1, 4, 5, 10, 14, 25] fun K hK => ?_
      simp [encCharges_eq, h14]
      repeat refine ⟨by first | omega | (simp only [maxLen]; omega), ?_⟩
      refine hK _ ?_
      clear hK K
      refine AWp.ret ?_
      repeat first | refine thenN ?_ | refine thenX ?_ | refine thenR ?_ | refine blockN ?_ | refine blockR ?_ | refine blockX ?_ | refine blockM rfl ?_
      first | (simp [RetOk, RV]; intro e; exact h10 (by rw [e])) | (simp [RetOk, RV]; exact hne) | (simp [RetOk, RV]; exact hall)

end Go.Proofs.Ytnmbnihbeggmgaa

namespace Go.Proofs.Ytnmbnihbeggmgaa
open Go Ab
def payO (l : List Charge) (p a : Int) : List Charge := if a < 1 ∨ 100000000 < a then [] else (payF p (a, []) l).2
def payX (l : List Charge) (p a : Int) : Int := if a < 1 ∨ 100000000 < a then 0 else (payF p (a, []) l).1
def payE (_ : List Charge) (_ a : Int) : Int := if a < 1 ∨ 100000000 < a then 1 else 0
theorem payR_tup (l : List Charge) (p a : Int) : payR l p a = .tup [encCharges (payO l p a), .int .i64 (payX l p a), .int .i64 (payE l p a)] := by
  unfold payR payO payX payE
  split <;> rfl
theorem f14t (l : List Charge) (p a : Int) (h : l.length ≤ 1000000) : ACalls E.P 14 [encCharges l, .int .i64 p, .int .i64 a] (.tup [encCharges (payO l p a), .int .i64 (payX l p a), .int .i64 (payE l p a)]) := payR_tup l p a ▸ f14 l p a h
theorem f15t (l : List Charge) (p a : Int) (h : l.length ≤ 1000000) : ACalls E.P 15 [encCharges l, .int .i64 p, .int .i64 a] (.tup [encCharges (payO l p a), .int .i64 (payX l p a), .int .i64 (payE l p a)]) := payR_tup l p a ▸ f15 l p a h
theorem f17t (l : List Charge) (p : Int) : ACalls E.P 17 [encCharges l, .int .i64 p] (.d (.int .i64 (owedF p 0 l))) := owedG_eq p l 0 ▸ f17 l p
end Go.Proofs.Ytnmbnihbeggmgaa

set_option maxRecDepth 100000
set_option linter.unusedSimpArgs false
namespace Go.Proofs.Ytnmbnihbeggmgaa
open Go Ab
theorem f20 (l : List Charge) (i : Int) (hl : l.length ≤ 1000000) : ACalls E.P 20 [encCharges l, .int .i64 i] (wvR l i) := by
  refine ACalls.intro E_ok Try.func20 rfl rfl Try.ntmps20 Try.results20 (Nat.le_of_ble_eq_true rfl) fun hok base S0 w0 => ?_
  -- region 0
  refine AWp.rseq E_ok [0, 1, 4, 5, 6, 7, 8, 9, 13, 22, 36] fun K hK => ?_
  simp [encCharges_eq]
  repeat refine ⟨by first | omega | (simp only [maxLen]; omega), ?_⟩
  refine hK _ ?_
  clear hK K
  -- region 1
  refine AWp.rseq E_ok [0, 1, 4, 5, 6, 7, 8, 9, 13, 22, 36] fun K hK => ?_
  simp [encCharges_eq]
  repeat refine ⟨by first | omega | (simp only [maxLen]; omega), ?_⟩
  refine hK _ ?_
  clear hK K
  -- region 2
  refine AWp.rseq E_ok [0, 1, 4, 5, 6, 7, 8, 9, 13, 22, 36] fun K hK => ?_
  simp [encCharges_eq]
  repeat refine ⟨by first | omega | (simp only [maxLen]; omega), ?_⟩
  refine hK _ ?_
  clear hK K
  refine AWp.seq ?_
  -- region 3
  refine AWp.rseq E_ok [0, 1, 4, 5, 6, 7, 8, 9, 13, 22, 36] fun K hK => ?_
  simp [encCharges_eq]
  repeat refine ⟨by first | omega | (simp only [maxLen]; omega), ?_⟩
  refine hK _ ?_
  clear hK K
  refine AWp.block ?_
  refine AWp.range (l := l) (F := wvF i) (tot := wvF i ([], -1) l) (fun k y => match y with | (o, q) => o.length ≤ k) (fun k y => match y with | (o, q) => [(0, T.val (encCharges l)), (1, T.val (.int .i64 i)), (7, T.own true (encCharge z0) (o.map encCharge)), (8, T.val (.int .i64 q)), (9, T.val (.int .i64 k))]) ([], -1) ?_ rfl ?_ ?_
  · simp [Weak, TW, encCharges_eq]
  · first | exact trivial | (simp; omega) | simp
  rintro k ⟨o, q⟩ hk hs hi
  try simp only at hi
  refine AWp.seq ?_
  -- region 4
  refine AWp.rseq E_ok [0, 1, 4, 5, 6, 7, 8, 9, 13, 22, 36] fun K hK => ?_
  simp [encCharges_eq]
  repeat refine ⟨by first | omega | (simp only [maxLen]; omega), ?_⟩
  refine hK _ ?_
  clear hK K
  refine AWp.cond rfl (fun h13 => ?_) (fun h13 => ?_)
  · try simp at h13
    obtain ⟨x, hx, hx2, hd⟩ := at_indexG (l := l) h13
    rw [hd] at hs
    refine AWp.skip ?_
    repeat first | refine thenN ?_ | refine thenX ?_ | refine thenR ?_ | refine blockN ?_ | refine blockR ?_ | refine blockX ?_ | refine blockM rfl ?_
    refine AWp.seq ?_
    refine AWp.block ?_
    -- region 6
    refine AWp.rseq E_ok [0, 1, 4, 5, 6, 7, 8, 9, 13, 22, 36] fun K hK => ?_
    simp [encCharges_eq, h13, hx, hx2]
    repeat refine ⟨by first | omega | (simp only [maxLen]; omega), ?_⟩
    refine hK _ ?_
    clear hK K
    refine AWp.cond rfl (fun h22 => ?_) (fun h22 => ?_)
    · try simp at h22
      -- region 7
      refine AWp.rend E_ok [0, 1, 4, 5, 6, 7, 8, 9, 13, 22, 36] fun K hK => ?_
      simp [encCharges_eq, h13, hx, hx2, h22]
      repeat refine ⟨by first | omega | (simp only [maxLen]; omega), ?_⟩
      refine hK _ ?_
      clear hK K
      repeat first | refine thenN ?_ | refine thenX ?_ | refine thenR ?_ | refine blockN ?_ | refine blockR ?_ | refine blockX ?_ | refine blockM rfl ?_
      -- region 5
      refine AWp.rend E_ok [0, 1, 4, 5, 6, 7, 8, 9, 13, 22, 36] fun K hK => ?_
      simp [encCharges_eq, h13, hx, hx2, h22]
      repeat refine ⟨by first | omega | (simp only [maxLen]; omega), ?_⟩
      refine hK _ ?_
      clear hK K
      repeat first | refine thenN ?_ | refine thenX ?_ | refine thenR ?_ | refine blockN ?_ | refine blockR ?_ | refine blockX ?_ | refine blockM rfl ?_
      have hw : IntKind.i64.wrap ((k : Int) + 1) = (k : Int) + 1 := by rw [wrap_i64] <;> omega
      simp [wvF, h22, encCharge] at hs
      refine ⟨_, h13, hs, ?_, ?_⟩
      · first | exact trivial | (simp; omega) | simp
      · simp [Weak, TW, hw, encCharges_eq, encCharge]
    · try simp at h22
      -- region 8
      refine AWp.rend E_ok [0, 1, 4, 5, 6, 7, 8, 9, 13, 22, 36] fun K hK => ?_
      simp [encCharges_eq, h13, hx, hx2, h22]
      repeat refine ⟨by first | omega | (simp only [maxLen]; omega), ?_⟩
      refine hK _ ?_
      clear hK K
      repeat first | refine thenN ?_ | refine thenX ?_ | refine thenR ?_ | refine blockN ?_ | refine blockR ?_ | refine blockX ?_ | refine blockM rfl ?_
      -- region 5
      refine AWp.rend E_ok [0, 1, 4, 5, 6, 7, 8, 9, 13, 22, 36] fun K hK => ?_
      simp [encCharges_eq, h13, hx, hx2, h22]
      repeat refine ⟨by first | omega | (simp only [maxLen]; omega), ?_⟩
      refine hK _ ?_
      clear hK K
      repeat first | refine thenN ?_ | refine thenX ?_ | refine thenR ?_ | refine blockN ?_ | refine blockR ?_ | refine blockX ?_ | refine blockM rfl ?_
      have hw : IntKind.i64.wrap ((k : Int) + 1) = (k : Int) + 1 := by rw [wrap_i64] <;> omega
      simp [wvF, h22, encCharge] at hs
      refine ⟨_, h13, hs, ?_, ?_⟩
      · first | exact trivial | (simp; omega) | simp
      · simp [Weak, TW, hw, encCharges_eq, encCharge]
  · try simp at h13
    obtain rfl : k = l.length := by omega
    simp [wvF] at hs
    refine AWp.exit ?_
    repeat first | refine thenN ?_ | refine thenX ?_ | refine thenR ?_ | refine blockN ?_ | refine blockR ?_ | refine blockX ?_ | refine blockM rfl ?_
    refine AWp.seq ?_
    -- region 9
    refine AWp.rseq E_ok [0, 1, 4, 5, 6, 7, 8, 9, 13, 22, 36] fun K hK => ?_
    simp [encCharges_eq, h13]
    repeat refine ⟨by first | omega | (simp only [maxLen]; omega), ?_⟩
    refine hK _ ?_
    clear hK K
    refine AWp.cond rfl (fun h36 => ?_) (fun h36 => ?_)
    · try simp at h36
      -- region 10
      refine AWp.rseq E_ok [0, 1, 4, 5, 6, 7, 8, 9, 13, 22, 36] fun K hK => ?_
      simp [encCharges_eq, h13, h36]
      repeat refine ⟨by first | omega | (simp only [maxLen]; omega), ?_⟩
      refine hK _ ?_
      clear hK K
      refine AWp.ret ?_
      repeat first | refine thenN ?_ | refine thenX ?_ | refine thenR ?_ | refine blockN ?_ | refine blockR ?_ | refine blockX ?_ | refine blockM rfl ?_
      first | (rw [wvR_none (by rw [← hs]; exact h36)]; simp [RetOk, RV, RVs, encCharges_eq]; done) | (rw [wvR_some (by rw [← hs]; exact h36)]; simp [RetOk, RV, RVs, ← hs, encCharges_eq])
    · try simp at h36
      refine AWp.skip ?_
      repeat first | refine thenN ?_ | refine thenX ?_ | refine thenR ?_ | refine blockN ?_ | refine blockR ?_ | refine blockX ?_ | refine blockM rfl ?_
      -- region 11
      refine AWp.rseq E_ok [0, 1, 4, 5, 6, 7, 8, 9, 13, 22, 36] fun K hK => ?_
      simp [encCharges_eq, h13, h36]
      repeat refine ⟨by first | omega | (simp only [maxLen]; omega), ?_⟩
      refine hK _ ?_
      clear hK K
      refine AWp.ret ?_
      repeat first | refine thenN ?_ | refine thenX ?_ | refine thenR ?_ | refine blockN ?_ | refine blockR ?_ | refine blockX ?_ | refine blockM rfl ?_
      first | (rw [wvR_none (by rw [← hs]; exact h36)]; simp [RetOk, RV, RVs, encCharges_eq]; done) | (rw [wvR_some (by rw [← hs]; exact h36)]; simp [RetOk, RV, RVs, ← hs, encCharges_eq])

theorem f22 (l : List Charge) (p i kd : Int) (hl : l.length ≤ 1000000) : ACalls E.P 22 [encCharges l, .int .i64 p, .int .i64 i, .int .i64 kd] (rfR l p i kd) := by
  refine ACalls.intro E_ok Try.func22 rfl rfl Try.ntmps22 Try.results22 (Nat.le_of_ble_eq_true rfl) fun hok base S0 w0 => ?_
  -- region 0
  refine AWp.rseq E_ok [0, 1, 2, 3, 8, 9, 10, 11, 12, 13, 17, 43] fun K hK => ?_
  simp [encCharges_eq]
  repeat refine ⟨by first | omega | (simp only [maxLen]; omega), ?_⟩
  refine hK _ ?_
  clear hK K
  -- region 1
  refine AWp.rseq E_ok [0, 1, 2, 3, 8, 9, 10, 11, 12, 13, 17, 43] fun K hK => ?_
  simp [encCharges_eq]
  repeat refine ⟨by first | omega | (simp only [maxLen]; omega), ?_⟩
  refine hK _ ?_
  clear hK K
  -- region 2
  refine AWp.rseq E_ok [0, 1, 2, 3, 8, 9, 10, 11, 12, 13, 17, 43] fun K hK => ?_
  simp [encCharges_eq]
  repeat refine ⟨by first | omega | (simp only [maxLen]; omega), ?_⟩
  refine hK _ ?_
  clear hK K
  refine AWp.seq ?_
  -- region 3
  refine AWp.rseq E_ok [0, 1, 2, 3, 8, 9, 10, 11, 12, 13, 17, 43] fun K hK => ?_
  simp [encCharges_eq]
  repeat refine ⟨by first | omega | (simp only [maxLen]; omega), ?_⟩
  refine hK _ ?_
  clear hK K
  refine AWp.block ?_
  refine AWp.range (l := l) (F := rfF p i kd) (tot := rfF p i kd ([], 0) l) (fun k y => match y with | (o, q) => o.length ≤ k) (fun k y => match y with | (o, q) => [(0, T.val (encCharges l)), (1, T.val (.int .i64 p)), (2, T.val (.int .i64 i)), (3, T.val (.int .i64 kd)), (10, T.own true (encCharge z0) (o.map encCharge)), (11, T.val (.int .i64 q)), (12, T.val (.int .i64 k))]) ([], 0) ?_ rfl ?_ ?_
  · simp [Weak, TW, encCharges_eq]
  · first | exact trivial | (simp; omega) | simp
  rintro k ⟨o, q⟩ hk hs hi
  try simp only at hi
  refine AWp.seq ?_
  -- region 4
  refine AWp.rseq E_ok [0, 1, 2, 3, 8, 9, 10, 11, 12, 13, 17, 43] fun K hK => ?_
  simp [encCharges_eq]
  repeat refine ⟨by first | omega | (simp only [maxLen]; omega), ?_⟩
  refine hK _ ?_
  clear hK K
  refine AWp.cond rfl (fun h17 => ?_) (fun h17 => ?_)
  · try simp at h17
    obtain ⟨x, hx, hx2, hd⟩ := at_indexG (l := l) h17
    rw [hd] at hs
    refine AWp.skip ?_
    repeat first | refine thenN ?_ | refine thenX ?_ | refine thenR ?_ | refine blockN ?_ | refine blockR ?_ | refine blockX ?_ | refine blockM rfl ?_
    refine AWp.seq ?_
    refine AWp.block ?_
    -- region 6
    refine AWp.rseq E_ok [0, 1, 2, 3, 8, 9, 10, 11, 12, 13, 17, 43] fun K hK => ?_
    simp [encCharges_eq, h17, hx, hx2]
    repeat refine ⟨by first | omega | (simp only [maxLen]; omega), ?_⟩
    refine hK _ ?_
    clear hK K
    -- region 7
    refine AWp.rseq E_ok [0, 1, 2, 3, 8, 9, 10, 11, 12, 13, 17, 43] fun K hK => ?_
    simp [encCharges_eq, h17, hx, hx2]
    repeat refine ⟨by first | omega | (simp only [maxLen]; omega), ?_⟩
    refine hK _ ?_
    clear hK K
    refine AWp.cond rfl (fun h43 => ?_) (fun h43 => ?_)
    · try simp at h43
      have hc : refP p i kd x = true := by cases hr : refP p i kd x with | true => rfl | false => (exfalso; simp [refP] at hr; simp_all)
      -- region 8
      refine AWp.rend E_ok [0, 1, 2, 3, 8, 9, 10, 11, 12, 13, 17, 43] fun K hK => ?_
      simp [encCharges_eq, h17, hx, hx2, h43]
      repeat refine ⟨by first | omega | (simp only [maxLen]; omega), ?_⟩
      refine hK _ ?_
      clear hK K
      repeat first | refine thenN ?_ | refine thenX ?_ | refine thenR ?_ | refine blockN ?_ | refine blockR ?_ | refine blockX ?_ | refine blockM rfl ?_
      -- region 5
      refine AWp.rend E_ok [0, 1, 2, 3, 8, 9, 10, 11, 12, 13, 17, 43] fun K hK => ?_
      simp [encCharges_eq, h17, hx, hx2, h43]
      repeat refine ⟨by first | omega | (simp only [maxLen]; omega), ?_⟩
      refine hK _ ?_
      clear hK K
      repeat first | refine thenN ?_ | refine thenX ?_ | refine thenR ?_ | refine blockN ?_ | refine blockR ?_ | refine blockX ?_ | refine blockM rfl ?_
      have hw : IntKind.i64.wrap ((k : Int) + 1) = (k : Int) + 1 := by rw [wrap_i64] <;> omega
      simp [rfF, hc] at hs
      refine ⟨_, h17, hs, ?_, ?_⟩
      · first | exact trivial | (simp; omega) | simp
      · simp [Weak, TW, hw, encCharges_eq, encCharge]
    · try simp at h43
      have hc : refP p i kd x = false := by cases hr : refP p i kd x with | false => rfl | true => (exfalso; simp [refP] at hr; simp_all)
      -- region 9
      refine AWp.rend E_ok [0, 1, 2, 3, 8, 9, 10, 11, 12, 13, 17, 43] fun K hK => ?_
      simp [encCharges_eq, h17, hx, hx2, h43]
      repeat refine ⟨by first | omega | (simp only [maxLen]; omega), ?_⟩
      refine hK _ ?_
      clear hK K
      repeat first | refine thenN ?_ | refine thenX ?_ | refine thenR ?_ | refine blockN ?_ | refine blockR ?_ | refine blockX ?_ | refine blockM rfl ?_
      -- region 5
      refine AWp.rend E_ok [0, 1, 2, 3, 8, 9, 10, 11, 12, 13, 17, 43] fun K hK => ?_
      simp [encCharges_eq, h17, hx, hx2, h43]
      repeat refine ⟨by first | omega | (simp only [maxLen]; omega), ?_⟩
      refine hK _ ?_
      clear hK K
      repeat first | refine thenN ?_ | refine thenX ?_ | refine thenR ?_ | refine blockN ?_ | refine blockR ?_ | refine blockX ?_ | refine blockM rfl ?_
      have hw : IntKind.i64.wrap ((k : Int) + 1) = (k : Int) + 1 := by rw [wrap_i64] <;> omega
      simp [rfF, hc] at hs
      refine ⟨_, h17, hs, ?_, ?_⟩
      · first | exact trivial | (simp; omega) | simp
      · simp [Weak, TW, hw, encCharges_eq, encCharge]
  · try simp at h17
    obtain rfl : k = l.length := by omega
    simp [rfF] at hs
    refine AWp.exit ?_
    repeat first | refine thenN ?_ | refine thenX ?_ | refine thenR ?_ | refine blockN ?_ | refine blockR ?_ | refine blockX ?_ | refine blockM rfl ?_
    -- region 10
    refine AWp.rseq E_ok [0, 1, 2, 3, 8, 9, 10, 11, 12, 13, 17, 43] fun K hK => ?_
    simp [encCharges_eq, h17]
    repeat refine ⟨by first | omega | (simp only [maxLen]; omega), ?_⟩
    refine hK _ ?_
    clear hK K
    refine AWp.ret ?_
    repeat first | refine thenN ?_ | refine thenX ?_ | refine thenR ?_ | refine blockN ?_ | refine blockR ?_ | refine blockX ?_ | refine blockM rfl ?_
    simp [RetOk, RV, RVs, rfR, ← hs, encCharges_eq]

end Go.Proofs.Ytnmbnihbeggmgaa

namespace Go.Proofs.Ytnmbnihbeggmgaa
open Go Ab
theorem rightF_cons {pr : Option Int} {c : Charge} {l : List Charge} (h : rightF pr (c :: l) = 0) : lowId pr c.id = false ∧ chkC c = 0 ∧ rightF (some c.id) l = 0 := by
  simp only [rightF] at h
  split at h
  · exact absurd h (by decide)
  · rename_i h1
    split at h
    · rename_i h2; exact absurd h h2
    · rename_i h2
      exact ⟨by simpa using h1, by simpa using h2, h⟩
theorem rightF_gt : ∀ (l : List Charge) (m : Int), rightF (some m) l = 0 → ∀ c ∈ l, m < c.id
  | [], _, _, c, hc => by simp at hc
  | x :: l, m, h, c, hc => by
    obtain ⟨h1, _, h3⟩ := rightF_cons h
    have hx : m < x.id := by simpa [lowId] using h1
    rcases List.mem_cons.1 hc with rfl | hc
    · exact hx
    · have := rightF_gt l x.id h3 c hc; omega
theorem chk0_facts {x : Charge} (h : chkC x = 0) : 1 ≤ x.id ∧ x.id ≤ 99999 ∧ 1 ≤ x.amount ∧ x.amount ≤ 100000000 ∧ 0 ≤ x.paid ∧ x.paid < x.amount := by
  unfold chkC at h
  split at h
  · exact absurd h (by decide)
  · split at h
    · exact absurd h (by decide)
    · split at h
      · exact absurd h (by decide)
      · rename_i h1 h2 h3
        have : ¬ (x.id < 1 ∨ 99999 < x.id) := fun hh => h1 (by rcases hh with hh | hh <;> simp [hh])
        omega
theorem rem_none {i : Int} : ∀ (l : List Charge) (o : List Charge) (q n : Int), (∀ c ∈ l, c.id ≠ i) → remF (fun c => c.id == i) (o, q, n) l = (o ++ l, q, n)
  | [], o, q, n, _ => by simp [remF]
  | c :: l, o, q, n, h => by
    have hc : ¬ (c.id = i) := h c (by simp)
    simp only [remF, beq_iff_eq, hc, if_false]
    rw [rem_none l _ q n (fun c' h' => h c' (by simp [h']))]; simp
theorem wv_none {i : Int} : ∀ (l : List Charge) (o : List Charge) (q : Int), (∀ c ∈ l, c.id ≠ i) → wvF i (o, q) l = (o ++ l, q)
  | [], o, q, _ => by simp [wvF]
  | c :: l, o, q, h => by
    have hc : ¬ (c.id = i) := h c (by simp)
    simp only [wvF, hc, if_false]
    rw [wv_none l _ q (fun c' h' => h c' (by simp [h']))]; simp
theorem rem_wv {i : Int} : ∀ (l : List Charge) (pr : Option Int) (o : List Charge), rightF pr l = 0 →
    (∃ x, remF (fun c => c.id == i) (o, 0, 0) l = (x, 0, 0) ∧ wvF i (o, -1) l = (x, -1)) ∨ ∃ x pd, 0 ≤ pd ∧ remF (fun c => c.id == i) (o, 0, 0) l = (x, pd, 1) ∧ wvF i (o, -1) l = (x, pd)
  | [], _, o, _ => .inl ⟨o, by simp [remF], by simp [wvF]⟩
  | c :: l, pr, o, h => by
    obtain ⟨_, h2, h3⟩ := rightF_cons h
    have hf := chk0_facts h2
    by_cases hc : c.id = i
    · right
      have hno : ∀ c' ∈ l, c'.id ≠ i := fun c' hc' => by have := rightF_gt l c.id h3 c' hc'; omega
      have e1 : IntKind.i64.wrap (0 + c.paid) = c.paid := by rw [wrap_i64] <;> omega
      have e2 : IntKind.i64.wrap (0 + 1) = 1 := by rw [wrap_i64] <;> omega
      refine ⟨o ++ l, c.paid, hf.2.2.2.2.1, ?_, ?_⟩
      · simp only [remF, beq_iff_eq, hc, if_true, e1, e2]
        exact rem_none l o _ _ hno
      · simp only [wvF, hc, if_true]
        exact wv_none l o _ hno
    · simp only [remF, wvF, beq_iff_eq, hc, if_false]
      exact rem_wv l (some c.id) (o ++ [c]) h3
theorem wvR_eq {l : List Charge} {i : Int} (h : rightR l = 0) : wvR l i = waiveR l i := by
  have h' : rightF none l = 0 := by
    unfold rightR at h
    split at h
    · exact absurd h (by decide)
    · exact h
  rcases rem_wv (i := i) l none [] h' with ⟨x, h1, h2⟩ | ⟨x, pd, h0, h1, h2⟩
  · unfold wvR waiveR; rw [h1, h2]; simp
  · unfold wvR waiveR; rw [h1, h2]; simp; omega
def wO (l : List Charge) (i : Int) : List Charge := if (remF (fun c => c.id == i) ([], 0, 0) l).2.2 = 0 then [] else (remF (fun c => c.id == i) ([], 0, 0) l).1
def wX (l : List Charge) (i : Int) : Int := if (remF (fun c => c.id == i) ([], 0, 0) l).2.2 = 0 then 0 else (remF (fun c => c.id == i) ([], 0, 0) l).2.1
def wE (l : List Charge) (i : Int) : Int := if (remF (fun c => c.id == i) ([], 0, 0) l).2.2 = 0 then 9 else 0
theorem waiveR_tup (l : List Charge) (i : Int) : waiveR l i = .tup [encCharges (wO l i), .int .i64 (wX l i), .int .i64 (wE l i)] := by
  unfold waiveR wO wX wE; split <;> rfl
theorem f19t (l : List Charge) (i : Int) (h : l.length ≤ 1000000) : ACalls E.P 19 [encCharges l, .int .i64 i] (.tup [encCharges (wO l i), .int .i64 (wX l i), .int .i64 (wE l i)]) := waiveR_tup l i ▸ f19 l i h
theorem f20t (l : List Charge) (i : Int) (h : l.length ≤ 1000000) (hr : rightR l = 0) : ACalls E.P 20 [encCharges l, .int .i64 i] (.tup [encCharges (wO l i), .int .i64 (wX l i), .int .i64 (wE l i)]) := waiveR_tup l i ▸ wvR_eq hr ▸ f20 l i h
theorem rf_rem {p i k : Int} : ∀ (l : List Charge) (o : List Charge) (q n : Int), (rfF p i k (o, q) l).1 = (remF (refP p i k) (o, q, n) l).1 ∧ (rfF p i k (o, q) l).2 = (remF (refP p i k) (o, q, n) l).2.1
  | [], o, q, n => ⟨rfl, rfl⟩
  | c :: l, o, q, n => by
    simp only [rfF, remF]
    split
    · exact rf_rem l o _ _
    · exact rf_rem l _ q n
theorem f21t (l : List Charge) (p i k : Int) (h : l.length ≤ 1000000) : ACalls E.P 21 [encCharges l, .int .i64 p, .int .i64 i, .int .i64 k] (.tup [encCharges (rfF p i k ([], 0) l).1, .int .i64 (rfF p i k ([], 0) l).2]) := by
  have := f21 l p i k h
  rw [show refundR l p i k = .tup [encCharges (rfF p i k ([], 0) l).1, .int .i64 (rfF p i k ([], 0) l).2] by rw [(rf_rem l [] 0 0).1, (rf_rem l [] 0 0).2]; rfl] at this
  exact this
theorem f22t (l : List Charge) (p i k : Int) (h : l.length ≤ 1000000) : ACalls E.P 22 [encCharges l, .int .i64 p, .int .i64 i, .int .i64 k] (.tup [encCharges (rfF p i k ([], 0) l).1, .int .i64 (rfF p i k ([], 0) l).2]) := f22 l p i k h
end Go.Proofs.Ytnmbnihbeggmgaa

set_option maxRecDepth 100000
set_option linter.unusedSimpArgs false
namespace Go.Proofs.Ytnmbnihbeggmgaa
open Go Ab
theorem f23 (l : List Charge) : ACalls E.P 23 [encCharges l] (.d (.int .i64 (rightR l))) := by
  refine ACalls.intro E_ok Try.func23 rfl rfl Try.ntmps23 Try.results23 (Nat.le_of_ble_eq_true rfl) fun hok base S0 w0 => ?_
  have hl : l.length ≤ 9223372036854775807 := by have := (Ok_slice (hok (encCharges l) (by simp))).1; simpa using this
  -- region 0
  refine AWp.rseq E_ok [0, 2, 3, 4, 5, 8, 9, 10, 11, 12, 28, 32] fun K hK => ?_
  simp [encCharges_eq]
  repeat refine ⟨by first | omega | (simp only [maxLen]; omega), ?_⟩
  refine hK _ ?_
  clear hK K
  refine AWp.seq ?_
  -- region 1
  refine AWp.rseq E_ok [0, 2, 3, 4, 5, 8, 9, 10, 11, 12, 28, 32] fun K hK => ?_
  simp [encCharges_eq]
  repeat refine ⟨by first | omega | (simp only [maxLen]; omega), ?_⟩
  refine hK _ ?_
  clear hK K
  refine AWp.cond rfl (fun h8 => ?_) (fun h8 => ?_)
  · try simp at h8
    -- region 2
    refine AWp.rseq E_ok [0, 2, 3, 4, 5, 8, 9, 10, 11, 12, 28, 32] fun K hK => ?_
    simp [encCharges_eq, h8]
    repeat refine ⟨by first | omega | (simp only [maxLen]; omega), ?_⟩
    refine hK _ ?_
    clear hK K
    refine AWp.ret ?_
    repeat first | refine thenN ?_ | refine thenX ?_ | refine thenR ?_ | refine blockN ?_ | refine blockR ?_ | refine blockX ?_ | refine blockM rfl ?_
    first | (rw [rightR_full h8]; simp [RetOk, RV]; done) | (rw [rightR_ok h8]; simp [RetOk, RV, ← hs])
  · try simp at h8
    refine AWp.skip ?_
    repeat first | refine thenN ?_ | refine thenX ?_ | refine thenR ?_ | refine blockN ?_ | refine blockR ?_ | refine blockX ?_ | refine blockM rfl ?_
    refine AWp.seq ?_
    -- region 3
    refine AWp.rseq E_ok [0, 2, 3, 4, 5, 8, 9, 10, 11, 12, 28, 32] fun K hK => ?_
    simp [encCharges_eq, h8]
    repeat refine ⟨by first | omega | (simp only [maxLen]; omega), ?_⟩
    refine hK _ ?_
    clear hK K
    refine AWp.block ?_
    refine AWp.range (l := l) (F := rightF) (tot := rightF none l) (fun k y => match y with | pr => pr = if k = 0 then none else (l[k-1]?).map Charge.id) (fun k y => match y with | pr => [(0, T.val (encCharges l)), (9, T.val (encCharges l)), (10, T.val (.int .i64 l.length)), (11, T.val (.int .i64 k))]) (none) ?_ rfl ?_ ?_
    · simp [Weak, TW, encCharges_eq]
    · first | rfl | (simp [hx])
    rintro k pr hk hs hi
    try simp only at hi
    -- region 4
    refine AWp.rseq E_ok [0, 2, 3, 4, 5, 8, 9, 10, 11, 12, 28, 32] fun K hK => ?_
    simp [encCharges_eq, h8]
    repeat refine ⟨by first | omega | (simp only [maxLen]; omega), ?_⟩
    refine hK _ ?_
    clear hK K
    refine AWp.seq ?_
    refine AWp.cond rfl (fun h12 => ?_) (fun h12 => ?_)
    · try simp at h12
      obtain ⟨x, hx, hx2, hd⟩ := at_indexG (l := l) h12
      rw [hd] at hs
      refine AWp.skip ?_
      repeat first | refine thenN ?_ | refine thenX ?_ | refine thenR ?_ | refine blockN ?_ | refine blockR ?_ | refine blockX ?_ | refine blockM rfl ?_
      refine AWp.seq ?_
      refine AWp.block ?_
      -- region 5
      refine AWp.rseq E_ok [0, 2, 3, 4, 5, 8, 9, 10, 11, 12, 28, 32] fun K hK => ?_
      simp [encCharges_eq, h8, h12, hx, hx2]
      repeat refine ⟨by first | omega | (simp only [maxLen]; omega), ?_⟩
      refine hK _ ?_
      clear hK K
      refine AWp.seq ?_
      rcases Nat.eq_zero_or_pos k with hk0 | hk0
      · skip
        have hpr : pr = none := by simpa [hk0] using hi
        have hk1 : ¬ (0 < k) := by omega
        have hlo : lowId pr x.id = false := by rw [hpr]; rfl
        -- region 6
        refine AWp.rseqQ E_ok mixed [0, 2, 3, 4, 5, 8, 9, 10, 11, 12, 28, 32] (by kernel_rfl) fun K hK => ?_
        simp [encCharges_eq, h8, h12, hx, hx2, hk1]
        repeat refine ⟨by first | omega | (simp only [maxLen]; omega), ?_⟩
        refine hK _ ?_
        clear hK K
        refine AWp.cond rfl (fun h28 => ?_) (fun h28 => ?_)
        · exact absurd h28 (by simp)
        · try simp at h28
          have hlo : lowId pr x.id = false := by rw [hpr]; first | rfl | simpa [lowId] using h28
          refine AWp.skip ?_
          repeat first | refine thenN ?_ | refine thenX ?_ | refine thenR ?_ | refine blockN ?_ | refine blockR ?_ | refine blockX ?_ | refine blockM rfl ?_
          -- region 8
          refine AWp.rseq E_ok [0, 2, 3, 4, 5, 8, 9, 10, 11, 12, 28, 32] fun K hK => ?_
          simp [encCharges_eq, h8, h12, hx, hx2, hk1, h28]
          refine meet.of (f35 x) ?_
          simp [encCharges_eq, h8, h12, hx, hx2, hk1, h28]
          repeat refine ⟨by first | omega | (simp only [maxLen]; omega), ?_⟩
          refine hK _ ?_
          clear hK K
          -- region 9
          refine AWp.rseq E_ok [0, 2, 3, 4, 5, 8, 9, 10, 11, 12, 28, 32] fun K hK => ?_
          simp [encCharges_eq, h8, h12, hx, hx2, hk1, h28]
          repeat refine ⟨by first | omega | (simp only [maxLen]; omega), ?_⟩
          refine hK _ ?_
          clear hK K
          refine AWp.cond rfl (fun h32 => ?_) (fun h32 => ?_)
          · try simp at h32
            have hc : ¬ (chkC x = 0) := h32
            -- region 10
            refine AWp.rseq E_ok [0, 2, 3, 4, 5, 8, 9, 10, 11, 12, 28, 32] fun K hK => ?_
            simp [encCharges_eq, h8, h12, hx, hx2, hk1, h28, h32]
            repeat refine ⟨by first | omega | (simp only [maxLen]; omega), ?_⟩
            refine hK _ ?_
            clear hK K
            refine AWp.ret ?_
            repeat first | refine thenN ?_ | refine thenX ?_ | refine thenR ?_ | refine blockN ?_ | refine blockR ?_ | refine blockX ?_ | refine blockM rfl ?_
            first | simp [rightF, hlo, hc] at hs | simp [rightF, hlo] at hs | simp [rightF] at hs
            first | (rw [rightR_full h8]; simp [RetOk, RV]; done) | (rw [rightR_ok h8]; simp [RetOk, RV, ← hs])
          · try simp at h32
            have hc : chkC x = 0 := h32
            refine AWp.skip ?_
            repeat first | refine thenN ?_ | refine thenX ?_ | refine thenR ?_ | refine blockN ?_ | refine blockR ?_ | refine blockX ?_ | refine blockM rfl ?_
            -- region 11
            refine AWp.rend E_ok [0, 2, 3, 4, 5, 8, 9, 10, 11, 12, 28, 32] fun K hK => ?_
            simp [encCharges_eq, h8, h12, hx, hx2, hk1, h28, h32]
            repeat refine ⟨by first | omega | (simp only [maxLen]; omega), ?_⟩
            refine hK _ ?_
            clear hK K
            repeat first | refine thenN ?_ | refine thenX ?_ | refine thenR ?_ | refine blockN ?_ | refine blockR ?_ | refine blockX ?_ | refine blockM rfl ?_
            have hw : IntKind.i64.wrap ((k : Int) + 1) = (k : Int) + 1 := by rw [wrap_i64] <;> omega
            simp [rightF, hlo, hc] at hs
            refine ⟨_, h12, hs, ?_, ?_⟩
            · first | rfl | (simp [hx])
            · simp [Weak, TW, hw, encCharges_eq]
      · skip
        obtain ⟨j, hkj⟩ : ∃ j, k = j + 1 := ⟨k - 1, by omega⟩
        obtain ⟨y, hy1, hy2, _⟩ := at_indexG (l := l) (k := j) (by omega)
        have hj0 : IntKind.i64.wrap ((k : Int) - 1) = (j : Int) := by rw [wrap_i64] <;> omega
        have hj1 : j < l.length := by omega
        have hpr : pr = some y.id := by simpa [hkj, hy1] using hi
        -- region 6
        refine AWp.rseqQ E_ok mixed [0, 2, 3, 4, 5, 8, 9, 10, 11, 12, 28, 32] (by kernel_rfl) fun K hK => ?_
        simp [encCharges_eq, h8, h12, hx, hx2, hk0, hj0, hy1, hy2, hj1]
        repeat refine ⟨by first | omega | (simp only [maxLen]; omega), ?_⟩
        refine hK _ ?_
        clear hK K
        refine AWp.cond rfl (fun h28 => ?_) (fun h28 => ?_)
        · try simp at h28
          have hlo : lowId pr x.id = true := by rw [hpr]; simpa [lowId] using h28
          -- region 7
          refine AWp.rseq E_ok [0, 2, 3, 4, 5, 8, 9, 10, 11, 12, 28, 32] fun K hK => ?_
          simp [encCharges_eq, h8, h12, hx, hx2, hk0, hj0, hy1, hy2, hj1, h28]
          repeat refine ⟨by first | omega | (simp only [maxLen]; omega), ?_⟩
          refine hK _ ?_
          clear hK K
          refine AWp.ret ?_
          repeat first | refine thenN ?_ | refine thenX ?_ | refine thenR ?_ | refine blockN ?_ | refine blockR ?_ | refine blockX ?_ | refine blockM rfl ?_
          first | simp [rightF, hlo, hc] at hs | simp [rightF, hlo] at hs | simp [rightF] at hs
          first | (rw [rightR_full h8]; simp [RetOk, RV]; done) | (rw [rightR_ok h8]; simp [RetOk, RV, ← hs])
        · try simp at h28
          have hlo : lowId pr x.id = false := by rw [hpr]; first | rfl | simpa [lowId] using h28
          refine AWp.skip ?_
          repeat first | refine thenN ?_ | refine thenX ?_ | refine thenR ?_ | refine blockN ?_ | refine blockR ?_ | refine blockX ?_ | refine blockM rfl ?_
          -- region 8
          refine AWp.rseq E_ok [0, 2, 3, 4, 5, 8, 9, 10, 11, 12, 28, 32] fun K hK => ?_
          simp [encCharges_eq, h8, h12, hx, hx2, hk0, hj0, hy1, hy2, hj1, h28]
          refine meet.of (f35 x) ?_
          simp [encCharges_eq, h8, h12, hx, hx2, hk0, hj0, hy1, hy2, hj1, h28]
          repeat refine ⟨by first | omega | (simp only [maxLen]; omega), ?_⟩
          refine hK _ ?_
          clear hK K
          -- region 9
          refine AWp.rseq E_ok [0, 2, 3, 4, 5, 8, 9, 10, 11, 12, 28, 32] fun K hK => ?_
          simp [encCharges_eq, h8, h12, hx, hx2, hk0, hj0, hy1, hy2, hj1, h28]
          repeat refine ⟨by first | omega | (simp only [maxLen]; omega), ?_⟩
          refine hK _ ?_
          clear hK K
          refine AWp.cond rfl (fun h32 => ?_) (fun h32 => ?_)
          · try simp at h32
            have hc : ¬ (chkC x = 0) := h32
            -- region 10
            refine AWp.rseq E_ok [0, 2, 3, 4, 5, 8, 9, 10, 11, 12, 28, 32] fun K hK => ?_
            simp [encCharges_eq, h8, h12, hx, hx2, hk0, hj0, hy1, hy2, hj1, h28, h32]
            repeat refine ⟨by first | omega | (simp only [maxLen]; omega), ?_⟩
            refine hK _ ?_
            clear hK K
            refine AWp.ret ?_
            repeat first | refine thenN ?_ | refine thenX ?_ | refine thenR ?_ | refine blockN ?_ | refine blockR ?_ | refine blockX ?_ | refine blockM rfl ?_
            first | simp [rightF, hlo, hc] at hs | simp [rightF, hlo] at hs | simp [rightF] at hs
            first | (rw [rightR_full h8]; simp [RetOk, RV]; done) | (rw [rightR_ok h8]; simp [RetOk, RV, ← hs])
          · try simp at h32
            have hc : chkC x = 0 := h32
            refine AWp.skip ?_
            repeat first | refine thenN ?_ | refine thenX ?_ | refine thenR ?_ | refine blockN ?_ | refine blockR ?_ | refine blockX ?_ | refine blockM rfl ?_
            -- region 11
            refine AWp.rend E_ok [0, 2, 3, 4, 5, 8, 9, 10, 11, 12, 28, 32] fun K hK => ?_
            simp [encCharges_eq, h8, h12, hx, hx2, hk0, hj0, hy1, hy2, hj1, h28, h32]
            repeat refine ⟨by first | omega | (simp only [maxLen]; omega), ?_⟩
            refine hK _ ?_
            clear hK K
            repeat first | refine thenN ?_ | refine thenX ?_ | refine thenR ?_ | refine blockN ?_ | refine blockR ?_ | refine blockX ?_ | refine blockM rfl ?_
            have hw : IntKind.i64.wrap ((k : Int) + 1) = (k : Int) + 1 := by rw [wrap_i64] <;> omega
            simp [rightF, hlo, hc] at hs
            refine ⟨_, h12, hs, ?_, ?_⟩
            · first | rfl | (simp [hx])
            · simp [Weak, TW, hw, encCharges_eq]
    · try simp at h12
      obtain rfl : k = l.length := by omega
      simp [rightF] at hs
      refine AWp.exit ?_
      repeat first | refine thenN ?_ | refine thenX ?_ | refine thenR ?_ | refine blockN ?_ | refine blockR ?_ | refine blockX ?_ | refine blockM rfl ?_
      -- region 12
      refine AWp.rseq E_ok [0, 2, 3, 4, 5, 8, 9, 10, 11, 12, 28, 32] fun K hK => ?_
      simp [encCharges_eq, h8, h12]
      repeat refine ⟨by first | omega | (simp only [maxLen]; omega), ?_⟩
      refine hK _ ?_
      clear hK K
      refine AWp.ret ?_
      repeat first | refine thenN ?_ | refine thenX ?_ | refine thenR ?_ | refine blockN ?_ | refine blockR ?_ | refine blockX ?_ | refine blockM rfl ?_
      first | (rw [rightR_full h8]; simp [RetOk, RV]; done) | (rw [rightR_ok h8]; simp [RetOk, RV, ← hs])

end Go.Proofs.Ytnmbnihbeggmgaa

namespace Go.Proofs.Ytnmbnihbeggmgaa
open Go Ab
def addR (l : List Charge) (c : Charge) : RetT := if rightR (l ++ [c]) = 0 then .tup [encCharges (l ++ [c]), .int .i64 0] else .tup [encCharges [], .int .i64 (rightR (l ++ [c]))]
theorem addR_bad {l : List Charge} {c : Charge} (h : ¬ rightR (l ++ [c]) = 0) : addR l c = .tup [encCharges [], .int .i64 (rightR (l ++ [c]))] := if_neg h
theorem addR_ok {l : List Charge} {c : Charge} (h : rightR (l ++ [c]) = 0) : addR l c = .tup [encCharges (l ++ [c]), .int .i64 0] := if_pos h
theorem f23a (l : List Charge) (c : Charge) : ACalls E.P 23 [.slice (encCharge z0) (l.map encCharge ++ [encCharge c])] (.d (.int .i64 (rightR (l ++ [c])))) := by
  have := f23 (l ++ [c]); rwa [encCharges_eq, List.map_append] at this
theorem f13a (l : List Charge) (c : Charge) : ACalls E.P 13 [.slice (encCharge z0) (l.map encCharge ++ [encCharge c])] (.d (.int .i64 (rightR (l ++ [c])))) := by
  have := f13 (l ++ [c]); rwa [encCharges_eq, List.map_append] at this
def copyF (o l : List Charge) : List Charge := o ++ l
end Go.Proofs.Ytnmbnihbeggmgaa

set_option maxRecDepth 100000
set_option linter.unusedSimpArgs false
namespace Go.Proofs.Ytnmbnihbeggmgaa
open Go Ab
theorem f25 (l : List Charge) (c : Charge) (hl : l.length ≤ 1000000) : ACalls E.P 25 [encCharges l, encCharge c] (addR l c) := by
  refine ACalls.intro E_ok Try.func25 rfl rfl Try.ntmps25 Try.results25 (Nat.le_of_ble_eq_true rfl) fun hok base S0 w0 => ?_
  -- region 0
  refine AWp.rseq E_ok [0, 1, 3, 4, 5, 6, 7, 16] fun K hK => ?_
  simp [encCharges_eq, encCharge_eq, z0]
  repeat refine ⟨by first | omega | (simp only [maxLen]; omega), ?_⟩
  refine hK _ ?_
  clear hK K
  -- region 1, every order
  refine AWp.rseqA E_ok mixed [0, 1, 3, 4, 5, 6, 7, 16] (n := 6) (l := #[false, false, false, false, false, false]) rfl (by kernel_rfl) fun K hK => ?_
  suffices hnext : K [(0, T.val (encCharges l)), (1, T.val (encCharge c)), (3, T.box [C.d (.int .i64 c.id), C.d (.int .i64 c.patron), C.d (.int .i64 c.item), C.d (.int .i64 c.day), C.d (.int .i64 c.kind), C.d (.int .i64 c.amount), C.d (.int .i64 c.paid)]), (4, T.nils), (5, T.val (.int .i64 0)), (6, T.own true (encCharge z0) (l.map encCharge ++ [encCharge c])), (7, T.junk), (16, T.junk)] by
    refine walkA.two (i := 0) (j := 2) (by kernel_rfl) rfl rfl ?_ ?_
    · skip
      simp [encCharges_eq, encCharge_eq, z0]
      repeat refine ⟨by first | omega | (simp only [maxLen]; omega), ?_⟩
      refine walkA.two (i := 1) (j := 2) (by kernel_rfl) rfl rfl ?_ ?_
      · skip
        simp [encCharges_eq, encCharge_eq, z0]
        repeat refine ⟨by first | omega | (simp only [maxLen]; omega), ?_⟩
        refine walkA.one (i := 2) (by kernel_rfl) rfl ?_
        simp [encCharges_eq, encCharge_eq, z0]
        repeat refine ⟨by first | omega | (simp only [maxLen]; omega), ?_⟩
        refine walkA.one (i := 3) (by kernel_rfl) rfl ?_
        simp [encCharges_eq, encCharge_eq, z0]
        repeat refine ⟨by first | omega | (simp only [maxLen]; omega), ?_⟩
        refine walkA.one (i := 4) (by kernel_rfl) rfl ?_
        simp [encCharges_eq, encCharge_eq, z0]
        repeat refine ⟨by first | omega | (simp only [maxLen]; omega), ?_⟩
        refine walkA.one (i := 5) (by kernel_rfl) rfl ?_
        simp [encCharges_eq, encCharge_eq, z0]
        repeat refine ⟨by first | omega | (simp only [maxLen]; omega), ?_⟩
        refine walkA.nil (by kernel_rfl) ?_
        simpa [encCharges_eq, encCharge_eq, z0] using hnext
      · skip
        simp [encCharges_eq, encCharge_eq, z0]
        repeat refine ⟨by first | omega | (simp only [maxLen]; omega), ?_⟩
        refine walkA.two (i := 1) (j := 3) (by kernel_rfl) rfl rfl ?_ ?_
        · skip
          simp [encCharges_eq, encCharge_eq, z0]
          repeat refine ⟨by first | omega | (simp only [maxLen]; omega), ?_⟩
          refine walkA.one (i := 3) (by kernel_rfl) rfl ?_
          simp [encCharges_eq, encCharge_eq, z0]
          repeat refine ⟨by first | omega | (simp only [maxLen]; omega), ?_⟩
          refine walkA.one (i := 4) (by kernel_rfl) rfl ?_
          simp [encCharges_eq, encCharge_eq, z0]
          repeat refine ⟨by first | omega | (simp only [maxLen]; omega), ?_⟩
          refine walkA.one (i := 5) (by kernel_rfl) rfl ?_
          simp [encCharges_eq, encCharge_eq, z0]
          repeat refine ⟨by first | omega | (simp only [maxLen]; omega), ?_⟩
          refine walkA.nil (by kernel_rfl) ?_
          simpa [encCharges_eq, encCharge_eq, z0] using hnext
        · skip
          simp [encCharges_eq, encCharge_eq, z0]
          repeat refine ⟨by first | omega | (simp only [maxLen]; omega), ?_⟩
          refine walkA.one (i := 1) (by kernel_rfl) rfl ?_
          simp [encCharges_eq, encCharge_eq, z0]
          repeat refine ⟨by first | omega | (simp only [maxLen]; omega), ?_⟩
          refine walkA.one (i := 4) (by kernel_rfl) rfl ?_
          simp [encCharges_eq, encCharge_eq, z0]
          repeat refine ⟨by first | omega | (simp only [maxLen]; omega), ?_⟩
          refine walkA.one (i := 5) (by kernel_rfl) rfl ?_
          simp [encCharges_eq, encCharge_eq, z0]
          repeat refine ⟨by first | omega | (simp only [maxLen]; omega), ?_⟩
          refine walkA.nil (by kernel_rfl) ?_
          simpa [encCharges_eq, encCharge_eq, z0] using hnext
    · skip
      simp [encCharges_eq, encCharge_eq, z0]
      repeat refine ⟨by first | omega | (simp only [maxLen]; omega), ?_⟩
      refine walkA.two (i := 0) (j := 3) (by kernel_rfl) rfl rfl ?_ ?_
      · skip
        simp [encCharges_eq, encCharge_eq, z0]
        repeat refine ⟨by first | omega | (simp only [maxLen]; omega), ?_⟩
        refine walkA.two (i := 1) (j := 3) (by kernel_rfl) rfl rfl ?_ ?_
        · skip
          simp [encCharges_eq, encCharge_eq, z0]
          repeat refine ⟨by first | omega | (simp only [maxLen]; omega), ?_⟩
          refine walkA.one (i := 3) (by kernel_rfl) rfl ?_
          simp [encCharges_eq, encCharge_eq, z0]
          repeat refine ⟨by first | omega | (simp only [maxLen]; omega), ?_⟩
          refine walkA.one (i := 4) (by kernel_rfl) rfl ?_
          simp [encCharges_eq, encCharge_eq, z0]
          repeat refine ⟨by first | omega | (simp only [maxLen]; omega), ?_⟩
          refine walkA.one (i := 5) (by kernel_rfl) rfl ?_
          simp [encCharges_eq, encCharge_eq, z0]
          repeat refine ⟨by first | omega | (simp only [maxLen]; omega), ?_⟩
          refine walkA.nil (by kernel_rfl) ?_
          simpa [encCharges_eq, encCharge_eq, z0] using hnext
        · skip
          simp [encCharges_eq, encCharge_eq, z0]
          repeat refine ⟨by first | omega | (simp only [maxLen]; omega), ?_⟩
          refine walkA.one (i := 1) (by kernel_rfl) rfl ?_
          simp [encCharges_eq, encCharge_eq, z0]
          repeat refine ⟨by first | omega | (simp only [maxLen]; omega), ?_⟩
          refine walkA.one (i := 4) (by kernel_rfl) rfl ?_
          simp [encCharges_eq, encCharge_eq, z0]
          repeat refine ⟨by first | omega | (simp only [maxLen]; omega), ?_⟩
          refine walkA.one (i := 5) (by kernel_rfl) rfl ?_
          simp [encCharges_eq, encCharge_eq, z0]
          repeat refine ⟨by first | omega | (simp only [maxLen]; omega), ?_⟩
          refine walkA.nil (by kernel_rfl) ?_
          simpa [encCharges_eq, encCharge_eq, z0] using hnext
      · skip
        simp [encCharges_eq, encCharge_eq, z0]
        repeat refine ⟨by first | omega | (simp only [maxLen]; omega), ?_⟩
        refine walkA.one (i := 0) (by kernel_rfl) rfl ?_
        simp [encCharges_eq, encCharge_eq, z0]
        repeat refine ⟨by first | omega | (simp only [maxLen]; omega), ?_⟩
        refine walkA.one (i := 1) (by kernel_rfl) rfl ?_
        simp [encCharges_eq, encCharge_eq, z0]
        repeat refine ⟨by first | omega | (simp only [maxLen]; omega), ?_⟩
        refine walkA.one (i := 4) (by kernel_rfl) rfl ?_
        simp [encCharges_eq, encCharge_eq, z0]
        repeat refine ⟨by first | omega | (simp only [maxLen]; omega), ?_⟩
        refine walkA.one (i := 5) (by kernel_rfl) rfl ?_
        simp [encCharges_eq, encCharge_eq, z0]
        repeat refine ⟨by first | omega | (simp only [maxLen]; omega), ?_⟩
        refine walkA.nil (by kernel_rfl) ?_
        simpa [encCharges_eq, encCharge_eq, z0] using hnext
  refine hK _ ?_
  clear hK K
  refine AWp.seq ?_
  -- region 2
  refine AWp.rseq E_ok [0, 1, 3, 4, 5, 6, 7, 16] fun K hK => ?_
  simp [encCharges_eq, encCharge_eq, z0]
  refine meet.of (f23a l c) ?_
  simp [encCharges_eq, encCharge_eq, z0]
  repeat refine ⟨by first | omega | (simp only [maxLen]; omega), ?_⟩
  refine hK _ ?_
  clear hK K
  -- region 3
  refine AWp.rseq E_ok [0, 1, 3, 4, 5, 6, 7, 16] fun K hK => ?_
  simp [encCharges_eq, encCharge_eq, z0]
  repeat refine ⟨by first | omega | (simp only [maxLen]; omega), ?_⟩
  refine hK _ ?_
  clear hK K
  refine AWp.cond rfl (fun h16 => ?_) (fun h16 => ?_)
  · try simp at h16
    -- region 4
    refine AWp.rseq E_ok [0, 1, 3, 4, 5, 6, 7, 16] fun K hK => ?_
    simp [encCharges_eq, encCharge_eq, z0, h16]
    repeat refine ⟨by first | omega | (simp only [maxLen]; omega), ?_⟩
    refine hK _ ?_
    clear hK K
    refine AWp.ret ?_
    repeat first | refine thenN ?_ | refine thenX ?_ | refine thenR ?_ | refine blockN ?_ | refine blockR ?_ | refine blockX ?_ | refine blockM rfl ?_
    first | (rw [addR_bad h16]; simp [RetOk, RV, RVs, encCharges_eq]; done) | (rw [addR_ok h16]; simp [RetOk, RV, RVs, encCharges_eq, encCharge_eq, z0])
  · try simp at h16
    refine AWp.skip ?_
    repeat first | refine thenN ?_ | refine thenX ?_ | refine thenR ?_ | refine blockN ?_ | refine blockR ?_ | refine blockX ?_ | refine blockM rfl ?_
    -- region 5
    refine AWp.rseq E_ok [0, 1, 3, 4, 5, 6, 7, 16] fun K hK => ?_
    simp [encCharges_eq, encCharge_eq, z0, h16]
    repeat refine ⟨by first | omega | (simp only [maxLen]; omega), ?_⟩
    refine hK _ ?_
    clear hK K
    refine AWp.ret ?_
    repeat first | refine thenN ?_ | refine thenX ?_ | refine thenR ?_ | refine blockN ?_ | refine blockR ?_ | refine blockX ?_ | refine blockM rfl ?_
    first | (rw [addR_bad h16]; simp [RetOk, RV, RVs, encCharges_eq]; done) | (rw [addR_ok h16]; simp [RetOk, RV, RVs, encCharges_eq, encCharge_eq, z0])

end Go.Proofs.Ytnmbnihbeggmgaa

set_option maxRecDepth 100000
set_option linter.unusedSimpArgs false
namespace Go.Proofs.Ytnmbnihbeggmgaa
open Go Ab
theorem f26 (l : List Charge) (c : Charge) (hl : l.length ≤ 1000000) : ACalls E.P 26 [encCharges l, encCharge c] (addR l c) := by
  refine ACalls.intro E_ok Try.func26 rfl rfl Try.ntmps26 Try.results26 (Nat.le_of_ble_eq_true rfl) fun hok base S0 w0 => ?_
  -- region 0
  refine AWp.rseq E_ok [0, 1, 3, 4, 5, 6, 7, 8, 12, 29] fun K hK => ?_
  simp [encCharges_eq, encCharge_eq, z0]
  repeat refine ⟨by first | omega | (simp only [maxLen]; omega), ?_⟩
  refine hK _ ?_
  clear hK K
  -- region 1
  refine AWp.rseq E_ok [0, 1, 3, 4, 5, 6, 7, 8, 12, 29] fun K hK => ?_
  simp [encCharges_eq, encCharge_eq, z0]
  repeat refine ⟨by first | omega | (simp only [maxLen]; omega), ?_⟩
  refine hK _ ?_
  clear hK K
  refine AWp.seq ?_
  -- region 2
  refine AWp.rseq E_ok [0, 1, 3, 4, 5, 6, 7, 8, 12, 29] fun K hK => ?_
  simp [encCharges_eq, encCharge_eq, z0]
  repeat refine ⟨by first | omega | (simp only [maxLen]; omega), ?_⟩
  refine hK _ ?_
  clear hK K
  refine AWp.block ?_
  refine AWp.range (l := l) (F := copyF) (tot := copyF [] l) (fun k y => match y with | o => o.length ≤ k) (fun k y => match y with | o => [(0, T.val (encCharges l)), (3, T.box [C.d (.int .i64 c.id), C.d (.int .i64 c.patron), C.d (.int .i64 c.item), C.d (.int .i64 c.day), C.d (.int .i64 c.kind), C.d (.int .i64 c.amount), C.d (.int .i64 c.paid)]), (6, T.own true (encCharge z0) (o.map encCharge)), (7, T.val (.int .i64 k))]) ([]) ?_ rfl ?_ ?_
  · simp [Weak, TW, encCharges_eq, encCharge_eq, z0]
  · first | exact trivial | (simp; omega) | simp
  rintro k o hk hs hi
  try simp only at hi
  refine AWp.seq ?_
  -- region 3
  refine AWp.rseq E_ok [0, 1, 3, 4, 5, 6, 7, 8, 12, 29] fun K hK => ?_
  simp [encCharges_eq, encCharge_eq, z0]
  repeat refine ⟨by first | omega | (simp only [maxLen]; omega), ?_⟩
  refine hK _ ?_
  clear hK K
  refine AWp.cond rfl (fun h12 => ?_) (fun h12 => ?_)
  · try simp at h12
    obtain ⟨x, hx, hx2, hd⟩ := at_indexG (l := l) h12
    rw [hd] at hs
    refine AWp.skip ?_
    repeat first | refine thenN ?_ | refine thenX ?_ | refine thenR ?_ | refine blockN ?_ | refine blockR ?_ | refine blockX ?_ | refine blockM rfl ?_
    refine AWp.seq ?_
    refine AWp.block ?_
    -- region 5
    refine AWp.rend E_ok [0, 1, 3, 4, 5, 6, 7, 8, 12, 29] fun K hK => ?_
    simp [encCharges_eq, encCharge_eq, z0, h12, hx, hx2]
    repeat refine ⟨by first | omega | (simp only [maxLen]; omega), ?_⟩
    refine hK _ ?_
    clear hK K
    repeat first | refine thenN ?_ | refine thenX ?_ | refine thenR ?_ | refine blockN ?_ | refine blockR ?_ | refine blockX ?_ | refine blockM rfl ?_
    -- region 4
    refine AWp.rend E_ok [0, 1, 3, 4, 5, 6, 7, 8, 12, 29] fun K hK => ?_
    simp [encCharges_eq, encCharge_eq, z0, h12, hx, hx2]
    repeat refine ⟨by first | omega | (simp only [maxLen]; omega), ?_⟩
    refine hK _ ?_
    clear hK K
    repeat first | refine thenN ?_ | refine thenX ?_ | refine thenR ?_ | refine blockN ?_ | refine blockR ?_ | refine blockX ?_ | refine blockM rfl ?_
    have hw : IntKind.i64.wrap ((k : Int) + 1) = (k : Int) + 1 := by rw [wrap_i64] <;> omega
    have hs : copyF (o ++ [x]) (l.drop (k + 1)) = copyF [] l := by rw [← hs]; simp [copyF]
    refine ⟨_, h12, hs, ?_, ?_⟩
    · first | exact trivial | (simp; omega) | simp
    · simp [Weak, TW, hw, encCharges_eq, encCharge_eq, z0]
  · try simp at h12
    have ho : l = o := by have e1 : l.drop k = [] := List.drop_eq_nil_of_le (by omega); rw [e1] at hs; exact (by simpa [copyF] using hs.symm)
    subst ho
    obtain rfl : k = l.length := by omega
    refine AWp.exit ?_
    repeat first | refine thenN ?_ | refine thenX ?_ | refine thenR ?_ | refine blockN ?_ | refine blockR ?_ | refine blockX ?_ | refine blockM rfl ?_
    -- region 6
    refine AWp.rseq E_ok [0, 1, 3, 4, 5, 6, 7, 8, 12, 29] fun K hK => ?_
    simp [encCharges_eq, encCharge_eq, z0, h12]
    repeat refine ⟨by first | omega | (simp only [maxLen]; omega), ?_⟩
    refine hK _ ?_
    clear hK K
    -- region 7
    refine AWp.rseq E_ok [0, 1, 3, 4, 5, 6, 7, 8, 12, 29] fun K hK => ?_
    simp [encCharges_eq, encCharge_eq, z0, h12]
    refine meet.of (f13a l c) ?_
    simp [encCharges_eq, encCharge_eq, z0, h12]
    repeat refine ⟨by first | omega | (simp only [maxLen]; omega), ?_⟩
    refine hK _ ?_
    clear hK K
    refine AWp.seq ?_
    -- region 8
    refine AWp.rseq E_ok [0, 1, 3, 4, 5, 6, 7, 8, 12, 29] fun K hK => ?_
    simp [encCharges_eq, encCharge_eq, z0, h12]
    repeat refine ⟨by first | omega | (simp only [maxLen]; omega), ?_⟩
    refine hK _ ?_
    clear hK K
    refine AWp.cond rfl (fun h29 => ?_) (fun h29 => ?_)
    · try simp at h29
      -- region 9
      refine AWp.rseq E_ok [0, 1, 3, 4, 5, 6, 7, 8, 12, 29] fun K hK => ?_
      simp [encCharges_eq, encCharge_eq, z0, h12, h29]
      repeat refine ⟨by first | omega | (simp only [maxLen]; omega), ?_⟩
      refine hK _ ?_
      clear hK K
      refine AWp.ret ?_
      repeat first | refine thenN ?_ | refine thenX ?_ | refine thenR ?_ | refine blockN ?_ | refine blockR ?_ | refine blockX ?_ | refine blockM rfl ?_
      first | (rw [addR_bad h29]; simp [RetOk, RV, RVs, encCharges_eq]; done) | (rw [addR_ok h29]; simp [RetOk, RV, RVs, encCharges_eq, encCharge_eq, z0])
    · try simp at h29
      refine AWp.skip ?_
      repeat first | refine thenN ?_ | refine thenX ?_ | refine thenR ?_ | refine blockN ?_ | refine blockR ?_ | refine blockX ?_ | refine blockM rfl ?_
      -- region 10
      refine AWp.rseq E_ok [0, 1, 3, 4, 5, 6, 7, 8, 12, 29] fun K hK => ?_
      simp [encCharges_eq, encCharge_eq, z0, h12, h29]
      repeat refine ⟨by first | omega | (simp only [maxLen]; omega), ?_⟩
      refine hK _ ?_
      clear hK K
      refine AWp.ret ?_
      repeat first | refine thenN ?_ | refine thenX ?_ | refine thenR ?_ | refine blockN ?_ | refine blockR ?_ | refine blockX ?_ | refine blockM rfl ?_
      first | (rw [addR_bad h29]; simp [RetOk, RV, RVs, encCharges_eq]; done) | (rw [addR_ok h29]; simp [RetOk, RV, RVs, encCharges_eq, encCharge_eq, z0])

end Go.Proofs.Ytnmbnihbeggmgaa

namespace Go.Proofs.Ytnmbnihbeggmgaa
open Go Ab
def addO (l : List Charge) (c : Charge) : List Charge := if rightR (l ++ [c]) = 0 then l ++ [c] else []
theorem addR_tup (l : List Charge) (c : Charge) : addR l c = .tup [encCharges (addO l c), .int .i64 (rightR (l ++ [c]))] := by
  unfold addR addO
  split
  · rename_i h; rw [h]
  · rfl
theorem f25t (l : List Charge) (c : Charge) (h : l.length ≤ 1000000) : ACalls E.P 25 [encCharges l, encCharge c] (.tup [encCharges (addO l c), .int .i64 (rightR (l ++ [c]))]) := addR_tup l c ▸ f25 l c h
theorem f26t (l : List Charge) (c : Charge) (h : l.length ≤ 1000000) : ACalls E.P 26 [encCharges l, encCharge c] (.tup [encCharges (addO l c), .int .i64 (rightR (l ++ [c]))]) := addR_tup l c ▸ f26 l c h
end Go.Proofs.Ytnmbnihbeggmgaa

set_option maxRecDepth 100000
set_option linter.unusedSimpArgs false
namespace Go.Proofs.Ytnmbnihbeggmgaa
open Go Ab
theorem f8 (l : List Charge) (c : Charge) : ACalls E.P 8 [encCharges l, encCharge c] (.d (.bool true)) := by
  refine ACalls.intro E_ok Try.func8 rfl rfl Try.ntmps8 Try.results8 (Nat.le_of_ble_eq_true rfl) fun hok base S0 w0 => ?_
  -- region 0
  refine AWp.rseq E_ok [0, 1, 3, 4, 5, 6, 7, 8, 9, 11, 14, 20, 22] fun K hK => ?_
  simp [encCharges_eq, encCharge_eq]
  repeat refine ⟨by first | omega | (simp only [maxLen]; omega), ?_⟩
  refine hK _ ?_
  clear hK K
  refine AWp.seq ?_
  -- region 1
  refine AWp.rseq E_ok [0, 1, 3, 4, 5, 6, 7, 8, 9, 11, 14, 20, 22] fun K hK => ?_
  simp [encCharges_eq, encCharge_eq]
  refine meet.of (f9) ?_
  simp [encCharges_eq, encCharge_eq]
  repeat refine ⟨by first | omega | (simp only [maxLen]; omega), ?_⟩
  refine hK _ ?_
  clear hK K
  refine AWp.cond rfl (fun h11 => ?_) (fun h11 => ?_)
  · exact absurd h11 (by simp)
  · try simp at h11
    refine AWp.skip ?_
    repeat first | refine thenN ?_ | refine thenX ?_ | refine thenR ?_ | refine blockN ?_ | refine blockR ?_ | refine blockX ?_ | refine blockM rfl ?_
    refine AWp.seq ?_
    -- region 3
    refine AWp.rseq E_ok [0, 1, 3, 4, 5, 6, 7, 8, 9, 11, 14, 20, 22] fun K hK => ?_
    simp [encCharges_eq, encCharge_eq]
    repeat refine ⟨by first | omega | (simp only [maxLen]; omega), ?_⟩
    refine hK _ ?_
    clear hK K
    refine AWp.cond rfl (fun h14 => ?_) (fun h14 => ?_)
    · try simp at h14
      -- region 4
      refine AWp.rseq E_ok [0, 1, 3, 4, 5, 6, 7, 8, 9, 11, 14, 20, 22] fun K hK => ?_
      simp [encCharges_eq, encCharge_eq, h14]
      repeat refine ⟨by first | omega | (simp only [maxLen]; omega), ?_⟩
      refine hK _ ?_
      clear hK K
      refine AWp.ret ?_
      repeat first | refine thenN ?_ | refine thenX ?_ | refine thenR ?_ | refine blockN ?_ | refine blockR ?_ | refine blockX ?_ | refine blockM rfl ?_
      simp [RetOk, RV]
    · try simp at h14
      refine AWp.skip ?_
      repeat first | refine thenN ?_ | refine thenX ?_ | refine thenR ?_ | refine blockN ?_ | refine blockR ?_ | refine blockX ?_ | refine blockM rfl ?_
      -- region 5
      refine AWp.rseq E_ok [0, 1, 3, 4, 5, 6, 7, 8, 9, 11, 14, 20, 22] fun K hK => ?_
      simp [encCharges_eq, encCharge_eq, h14]
      refine meet.of (f13 l) ?_
      simp [encCharges_eq, encCharge_eq, h14]
      repeat refine ⟨by first | omega | (simp only [maxLen]; omega), ?_⟩
      refine hK _ ?_
      clear hK K
      refine AWp.seq ?_
      -- region 6
      refine AWp.rseq E_ok [0, 1, 3, 4, 5, 6, 7, 8, 9, 11, 14, 20, 22] fun K hK => ?_
      simp [encCharges_eq, encCharge_eq, h14]
      refine meet.of (f23 l) ?_
      simp [encCharges_eq, encCharge_eq, h14]
      repeat refine ⟨by first | omega | (simp only [maxLen]; omega), ?_⟩
      refine hK _ ?_
      clear hK K
      refine AWp.cond rfl (fun h20 => ?_) (fun h20 => ?_)
      · exact absurd h20 (by simp)
      · try simp at h20
        refine AWp.skip ?_
        repeat first | refine thenN ?_ | refine thenX ?_ | refine thenR ?_ | refine blockN ?_ | refine blockR ?_ | refine blockX ?_ | refine blockM rfl ?_
        refine AWp.seq ?_
        -- region 8
        refine AWp.rseq E_ok [0, 1, 3, 4, 5, 6, 7, 8, 9, 11, 14, 20, 22] fun K hK => ?_
        simp [encCharges_eq, encCharge_eq, h14]
        repeat refine ⟨by first | omega | (simp only [maxLen]; omega), ?_⟩
        refine hK _ ?_
        clear hK K
        refine AWp.cond rfl (fun h22 => ?_) (fun h22 => ?_)
        · try simp at h22
          -- region 9
          refine AWp.rseq E_ok [0, 1, 3, 4, 5, 6, 7, 8, 9, 11, 14, 20, 22] fun K hK => ?_
          simp [encCharges_eq, encCharge_eq, h14, h22]
          repeat refine ⟨by first | omega | (simp only [maxLen]; omega), ?_⟩
          refine hK _ ?_
          clear hK K
          refine AWp.ret ?_
          repeat first | refine thenN ?_ | refine thenX ?_ | refine thenR ?_ | refine blockN ?_ | refine blockR ?_ | refine blockX ?_ | refine blockM rfl ?_
          simp [RetOk, RV]
        · try simp at h22
          refine AWp.skip ?_
          repeat first | refine thenN ?_ | refine thenX ?_ | refine thenR ?_ | refine blockN ?_ | refine blockR ?_ | refine blockX ?_ | refine blockM rfl ?_
          -- region 10
          refine AWp.rseq E_ok [0, 1, 3, 4, 5, 6, 7, 8, 9, 11, 14, 20, 22] fun K hK => ?_
          simp [encCharges_eq, encCharge_eq, h14, h22]
          refine meet.of (f25t l c (by omega)) ?_
          simp [encCharges_eq, encCharge_eq, h14, h22]
          repeat refine ⟨by first | omega | (simp only [maxLen]; omega), ?_⟩
          refine hK _ ?_
          clear hK K
          -- region 11
          refine AWp.rseq E_ok [0, 1, 3, 4, 5, 6, 7, 8, 9, 11, 14, 20, 22] fun K hK => ?_
          simp [encCharges_eq, encCharge_eq, h14, h22]
          refine meet.of (f26t l c (by omega)) ?_
          simp [encCharges_eq, encCharge_eq, h14, h22]
          repeat refine ⟨by first | omega | (simp only [maxLen]; omega), ?_⟩
          refine hK _ ?_
          clear hK K
          -- region 12
          refine AWp.rseq E_ok [0, 1, 3, 4, 5, 6, 7, 8, 9, 11, 14, 20, 22] fun K hK => ?_
          simp [encCharges_eq, encCharge_eq, h14, h22]
          refine meet.of (f18 _ _) ?_
          simp [encCharges_eq, encCharge_eq, h14, h22]
          repeat refine ⟨by first | omega | (simp only [maxLen]; omega), ?_⟩
          refine hK _ ?_
          clear hK K
          refine AWp.ret ?_
          repeat first | refine thenN ?_ | refine thenX ?_ | refine thenR ?_ | refine blockN ?_ | refine blockR ?_ | refine blockX ?_ | refine blockM rfl ?_
          simp [RetOk, RV]

end Go.Proofs.Ytnmbnihbeggmgaa

namespace Go.Proofs.Ytnmbnihbeggmgaa
open Go Ab
theorem openInt : Opens Try.prog 3 (fun n => [D.int .i64 n]) (fun n => IntKind.i64.min ≤ n ∧ n ≤ IntKind.i64.max) := Opens.int Try.underlying3
theorem openIntV : OpensV Try.prog 3 (fun n => D.int .i64 n) (fun n => IntKind.i64.min ≤ n ∧ n ≤ IntKind.i64.max) := Opens.one openInt (cells_int' Try.underlying3)
theorem openCharge : Opens Try.prog 44 (fun c : Charge => (encCharge c).cells) (fun _ => True) :=
  (Opens.struct Try.underlying44 (OpensF.cons (n := 1) rfl (by kernel_rfl) openInt (fun _ => rfl) (OpensF.cons (n := 1) rfl (by kernel_rfl) openInt (fun _ => rfl) (OpensF.cons (n := 1) rfl (by kernel_rfl) openInt (fun _ => rfl) (OpensF.cons (n := 1) rfl (by kernel_rfl) openInt (fun _ => rfl)
    (OpensF.cons (n := 1) rfl (by kernel_rfl) openInt (fun _ => rfl) (OpensF.cons (n := 1) rfl (by kernel_rfl) openInt (fun _ => rfl) (OpensF.cons (n := 1) rfl (by kernel_rfl) openInt (fun _ => rfl) OpensF.nil))))))) (fun _ => by kernel_rfl)).map
    (fun p => (⟨p.1, p.2.1, p.2.2.1, p.2.2.2.1, p.2.2.2.2.1, p.2.2.2.2.2.1, p.2.2.2.2.2.2.1⟩ : Charge)) (fun _ => rfl) (fun _ _ => trivial)
theorem openCharges : OpensV Try.prog 31 encCharges (fun l => l.length ≤ Go.maxLen) :=
  Opens.one ((Opens.slice Try.underlying31 (by kernel_rfl) (by decide) openCharge encCharge (fun _ => rfl) (encCharge z0) rfl).map id (fun _ => rfl) (fun _ h => h.2)) (cells_slice' Try.underlying31)
end Go.Proofs.Ytnmbnihbeggmgaa

namespace Go.Proofs.Ytnmbnihbeggmgaa
open Go Ab
theorem openChargeV : OpensV Try.prog 44 encCharge (fun _ => True) := Opens.agg Try.underlying44 openCharge
end Go.Proofs.Ytnmbnihbeggmgaa
