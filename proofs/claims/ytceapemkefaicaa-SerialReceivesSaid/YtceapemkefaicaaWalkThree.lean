/-
  What the functions compute that the statement reaches: contracts, and the plain laws between them. Conditions stand at each theorem.
-/
import Derived.Test.YtceapemkefaicaaWalkTwo
set_option linter.unusedVariables false
set_option linter.unusedSimpArgs false
set_option maxRecDepth 100000
set_option linter.unusedSimpArgs false
set_option linter.unusedVariables false
namespace Go.Proofs.Ytceapemkefaicaa
open Go Ab Pl
theorem date_Months (day n : Int) : ACalls E.P 91 [.int .i64 day, .int .i64 n] (.tup [.int .i64 (monthsR day n).1, .int .i64 (monthsR day n).2]) := by
  refine ACalls.intro E_ok Try.func91 rfl rfl Try.ntmps91 Try.results91 (Nat.le_of_ble_eq_true rfl) fun hok base S0 w0 => ?_
  -- region 0
  refine AWp.rseq E_ok [0, 1, 4, 5, 6, 7, 8, 9, 10, 19, 26, 40] fun K hK => ?_
  simp
  try simp (disch := omega) only [wrap_i64]
  repeat refine ⟨by first | omega | assumption | (simp only [maxLen]; omega) | (intros; omega) | decide, ?_⟩
  refine hK _ ?_
  clear hK K
  -- region 1
  refine AWp.rseq E_ok [0, 1, 4, 5, 6, 7, 8, 9, 10, 19, 26, 40] fun K hK => ?_
  simp
  try simp (disch := omega) only [wrap_i64]
  repeat refine ⟨by first | omega | assumption | (simp only [maxLen]; omega) | (intros; omega) | decide, ?_⟩
  refine meet.of (date_Parts day) ?_
  simp
  try simp (disch := omega) only [wrap_i64]
  repeat refine ⟨by first | omega | assumption | (simp only [maxLen]; omega) | (intros; omega) | decide, ?_⟩
  refine hK _ ?_
  clear hK K
  refine AWp.seq ?_
  -- region 2
  refine AWp.rseq E_ok [0, 1, 4, 5, 6, 7, 8, 9, 10, 19, 26, 40] fun K hK => ?_
  simp
  try simp (disch := omega) only [wrap_i64]
  repeat refine ⟨by first | omega | assumption | (simp only [maxLen]; omega) | (intros; omega) | decide, ?_⟩
  refine hK _ ?_
  clear hK K
  refine AWp.cond rfl (fun h19 => ?_) (fun h19 => ?_)
  · try simp at h19
    have hb := months_a (day := day) (n := n) (.inl (partsR_unknown h19))
    have hpr := partsR_bad (partsR_unknown h19)
    -- region 3
    refine AWp.rseq E_ok [0, 1, 4, 5, 6, 7, 8, 9, 10, 19, 26, 40] fun K hK => ?_
    simp [hpr]
    try simp (disch := omega) only [wrap_i64]
    repeat refine ⟨by first | omega | assumption | (simp only [maxLen]; omega) | (intros; omega) | decide, ?_⟩
    refine hK _ ?_
    clear hK K
    refine AWp.ret ?_
    repeat first | refine thenN ?_ | refine thenX ?_ | refine thenR ?_ | refine blockN ?_ | refine blockR ?_ | refine blockX ?_ | refine blockM rfl ?_
    first | (simp [RetOk, RV, RVs, hb, hpr]; done) | (simp [RetOk, RV, RVs, hb])
  · try simp at h19
    have hk := partsR_known h19
    have hpr := partsR_ok hk
    have hi := parts_in (parts_is hk.1 hk.2)
    refine AWp.skip ?_
    repeat first | refine thenN ?_ | refine thenX ?_ | refine thenR ?_ | refine blockN ?_ | refine blockR ?_ | refine blockX ?_ | refine blockM rfl ?_
    refine AWp.seq ?_
    -- region 4
    refine AWp.rseq E_ok [0, 1, 4, 5, 6, 7, 8, 9, 10, 19, 26, 40] fun K hK => ?_
    simp [hpr]
    try simp (disch := omega) only [wrap_i64]
    repeat refine ⟨by first | omega | assumption | (simp only [maxLen]; omega) | (intros; omega) | decide, ?_⟩
    refine hK _ ?_
    clear hK K
    refine AWp.cond rfl (fun h26 => ?_) (fun h26 => ?_)
    · try simp at h26
      have hb := months_a (day := day) (n := n) (.inr (by omega))
      -- region 5
      refine AWp.rseq E_ok [0, 1, 4, 5, 6, 7, 8, 9, 10, 19, 26, 40] fun K hK => ?_
      simp [hpr]
      try simp (disch := omega) only [wrap_i64]
      repeat refine ⟨by first | omega | assumption | (simp only [maxLen]; omega) | (intros; omega) | decide, ?_⟩
      refine hK _ ?_
      clear hK K
      refine AWp.ret ?_
      repeat first | refine thenN ?_ | refine thenX ?_ | refine thenR ?_ | refine blockN ?_ | refine blockR ?_ | refine blockX ?_ | refine blockM rfl ?_
      first | (simp [RetOk, RV, RVs, hb, hpr]; done) | (simp [RetOk, RV, RVs, hb])
    · try simp at h26
      have hkk : ((partsP day).y - 1900) * 12 + (partsP day).m - 1 + n = monK day n - 22800 := by unfold monK; omega
      refine AWp.skip ?_
      repeat first | refine thenN ?_ | refine thenX ?_ | refine thenR ?_ | refine blockN ?_ | refine blockR ?_ | refine blockX ?_ | refine blockM rfl ?_
      -- region 6
      refine AWp.rseq E_ok [0, 1, 4, 5, 6, 7, 8, 9, 10, 19, 26, 40] fun K hK => ?_
      simp [hpr, hkk]
      try simp (disch := omega) only [wrap_i64]
      repeat refine ⟨by first | omega | assumption | (simp only [maxLen]; omega) | (intros; omega) | decide, ?_⟩
      refine hK _ ?_
      clear hK K
      refine AWp.seq ?_
      -- region 7
      refine AWp.rseq E_ok [0, 1, 4, 5, 6, 7, 8, 9, 10, 19, 26, 40] fun K hK => ?_
      simp [hpr, hkk]
      try simp (disch := omega) only [wrap_i64]
      repeat refine ⟨by first | omega | assumption | (simp only [maxLen]; omega) | (intros; omega) | decide, ?_⟩
      refine hK _ ?_
      clear hK K
      refine AWp.cond rfl (fun h40 => ?_) (fun h40 => ?_)
      · try simp at h40
        have hb := months_b (day := day) (n := n) ⟨hk, by omega, by omega⟩ (by omega)
        -- region 8
        refine AWp.rseq E_ok [0, 1, 4, 5, 6, 7, 8, 9, 10, 19, 26, 40] fun K hK => ?_
        simp [hpr, hkk]
        try simp (disch := omega) only [wrap_i64]
        repeat refine ⟨by first | omega | assumption | (simp only [maxLen]; omega) | (intros; omega) | decide, ?_⟩
        refine hK _ ?_
        clear hK K
        refine AWp.ret ?_
        repeat first | refine thenN ?_ | refine thenX ?_ | refine thenR ?_ | refine blockN ?_ | refine blockR ?_ | refine blockX ?_ | refine blockM rfl ?_
        first | (simp [RetOk, RV, RVs, hb, hpr]; done) | (simp [RetOk, RV, RVs, hb])
      · try simp at h40
        have hb := months_c (day := day) (n := n) ⟨hk, by omega, by omega⟩ (by omega)
        have q1 : (monK day n - 22800).tdiv 12 = monK day n / 12 - 1900 := by rw [Int.tdiv_eq_ediv_of_nonneg (by omega)]; omega
        have q2 : (monK day n - 22800).tmod 12 = monK day n % 12 := by rw [Int.tmod_eq_emod_of_nonneg (by omega)]; omega
        have q3 : 1900 + (monK day n / 12 - 1900) = monK day n / 12 := by omega
        have q4 : (if mlenD (monK day n / 12) (monK day n % 12 + 1) < (partsP day).d then mlenD (monK day n / 12) (monK day n % 12 + 1) else (partsP day).d) = min (partsP day).d (mlenD (monK day n / 12) (monK day n % 12 + 1)) := by split <;> omega
        refine AWp.skip ?_
        repeat first | refine thenN ?_ | refine thenX ?_ | refine thenR ?_ | refine blockN ?_ | refine blockR ?_ | refine blockX ?_ | refine blockM rfl ?_
        -- region 9
        refine AWp.rseq E_ok [0, 1, 4, 5, 6, 7, 8, 9, 10, 19, 26, 40] fun K hK => ?_
        simp [hpr, hkk, q1, q2, q3, q4]
        try simp (disch := omega) only [wrap_i64]
        repeat refine ⟨by first | omega | assumption | (simp only [maxLen]; omega) | (intros; omega) | decide, ?_⟩
        refine hK _ ?_
        clear hK K
        -- region 10
        refine AWp.rseq E_ok [0, 1, 4, 5, 6, 7, 8, 9, 10, 19, 26, 40] fun K hK => ?_
        simp [hpr, hkk, q1, q2, q3, q4]
        try simp (disch := omega) only [wrap_i64]
        repeat refine ⟨by first | omega | assumption | (simp only [maxLen]; omega) | (intros; omega) | decide, ?_⟩
        refine meet.of (date_Length (monK day n / 12) (monK day n % 12 + 1)) ?_
        simp [hpr, hkk, q1, q2, q3, q4]
        try simp (disch := omega) only [wrap_i64]
        repeat refine ⟨by first | omega | assumption | (simp only [maxLen]; omega) | (intros; omega) | decide, ?_⟩
        refine meet.of (date_Of (monK day n / 12) (monK day n % 12 + 1) (min (partsP day).d (mlenD (monK day n / 12) (monK day n % 12 + 1)))) ?_
        simp [hpr, hkk, q1, q2, q3, q4]
        try simp (disch := omega) only [wrap_i64]
        repeat refine ⟨by first | omega | assumption | (simp only [maxLen]; omega) | (intros; omega) | decide, ?_⟩
        refine hK _ ?_
        clear hK K
        refine AWp.ret ?_
        repeat first | refine thenN ?_ | refine thenX ?_ | refine thenR ?_ | refine blockN ?_ | refine blockR ?_ | refine blockX ?_ | refine blockM rfl ?_
        first | (simp [RetOk, RV, RVs, hb, hpr]; done) | (simp [RetOk, RV, RVs, hb])
end Go.Proofs.Ytceapemkefaicaa

set_option maxRecDepth 100000
set_option linter.unusedSimpArgs false
set_option linter.unusedVariables false
namespace Go.Proofs.Ytceapemkefaicaa
open Go Ab Pl
theorem pattern_nominal (p : Pat) (k : Int) (hp : PatOk p) (hk : 0 ≤ k ∧ k ≤ 16000) : ACalls E.P 85 [encPat p, .int .i64 k] (.tup [.int .i64 (nomR p k).1, .bool (nomR p k).2]) := by
  refine ACalls.intro E_ok Try.func85 rfl rfl Try.ntmps85 Try.results85 (Nat.le_of_ble_eq_true rfl) fun hok base S0 w0 => ?_
  have hs := hp.1; have he := hp.2.1
  -- region 0
  refine AWp.rseq E_ok [0, 1, 2, 4, 5, 6, 7, 8, 9, 11, 12, 26, 28] fun K hK => ?_
  simp [encPat_eq]
  try simp (disch := omega) only [wrap_i64]
  repeat refine ⟨by first | omega | assumption | (simp only [maxLen]; omega) | (intros; omega) | decide, ?_⟩
  refine hK _ ?_
  clear hK K
  -- region 1
  refine AWp.rseq E_ok [0, 1, 2, 4, 5, 6, 7, 8, 9, 11, 12, 26, 28] fun K hK => ?_
  simp [encPat_eq]
  try simp (disch := omega) only [wrap_i64]
  repeat refine ⟨by first | omega | assumption | (simp only [maxLen]; omega) | (intros; omega) | decide, ?_⟩
  refine hK _ ?_
  clear hK K
  refine AWp.seq ?_
  -- region 2
  refine AWp.rseq E_ok [0, 1, 2, 4, 5, 6, 7, 8, 9, 11, 12, 26, 28] fun K hK => ?_
  simp [encPat_eq]
  try simp (disch := omega) only [wrap_i64]
  repeat refine ⟨by first | omega | assumption | (simp only [maxLen]; omega) | (intros; omega) | decide, ?_⟩
  refine hK _ ?_
  clear hK K
  refine AWp.block ?_
  -- region 3
  refine AWp.rseq E_ok [0, 1, 2, 4, 5, 6, 7, 8, 9, 11, 12, 26, 28] fun K hK => ?_
  simp [encPat_eq]
  try simp (disch := omega) only [wrap_i64]
  repeat refine ⟨by first | omega | assumption | (simp only [maxLen]; omega) | (intros; omega) | decide, ?_⟩
  refine hK _ ?_
  clear hK K
  refine AWp.cond rfl (fun h12 => ?_) (fun h12 => ?_)
  · try simp at h12
    -- region 4
    refine AWp.rseq E_ok [0, 1, 2, 4, 5, 6, 7, 8, 9, 11, 12, 26, 28] fun K hK => ?_
    simp [encPat_eq, h12]
    try simp (disch := omega) only [wrap_i64]
    repeat refine ⟨by first | omega | assumption | (simp only [maxLen]; omega) | (intros; omega) | decide, ?_⟩
    refine hK _ ?_
    clear hK K
    -- region 5
    refine AWp.rseq E_ok [0, 1, 2, 4, 5, 6, 7, 8, 9, 11, 12, 26, 28] fun K hK => ?_
    simp [encPat_eq, h12]
    try simp (disch := omega) only [wrap_i64]
    repeat refine ⟨by first | omega | assumption | (simp only [maxLen]; omega) | (intros; omega) | decide, ?_⟩
    refine hK _ ?_
    clear hK K
    refine AWp.ret ?_
    repeat first | refine thenN ?_ | refine thenX ?_ | refine thenR ?_ | refine blockN ?_ | refine blockR ?_ | refine blockX ?_ | refine blockM rfl ?_
    first | (simp [RetOk, RV, RVs, nomR, h12, Bool.decide_and]; done) | (simp [RetOk, RV, RVs, nomR, h12, sp]; done) | (simp [RetOk, RV, RVs, nomR, h12, sp]; exact Bool.beq_eq_decide_eq _ _)
  · try simp at h12
    -- region 6
    refine AWp.rseq E_ok [0, 1, 2, 4, 5, 6, 7, 8, 9, 11, 12, 26, 28] fun K hK => ?_
    simp [encPat_eq, h12]
    try simp (disch := omega) only [wrap_i64]
    repeat refine ⟨by first | omega | assumption | (simp only [maxLen]; omega) | (intros; omega) | decide, ?_⟩
    refine hK _ ?_
    clear hK K
    refine AWp.cond rfl (fun h26 => ?_) (fun h26 => ?_)
    · try simp at h26
      have sp : stepP p = 3 := by unfold stepP; rw [if_pos h26]
      -- region 7
      refine AWp.rend E_ok [0, 1, 2, 4, 5, 6, 7, 8, 9, 11, 12, 26, 28] fun K hK => ?_
      simp [encPat_eq, h12, h26]
      try simp (disch := omega) only [wrap_i64]
      repeat refine ⟨by first | omega | assumption | (simp only [maxLen]; omega) | (intros; omega) | decide, ?_⟩
      refine hK _ ?_
      clear hK K
      repeat first | refine thenN ?_ | refine thenX ?_ | refine thenR ?_ | refine blockN ?_ | refine blockR ?_ | refine blockX ?_ | refine blockM rfl ?_
      -- region 10
      refine AWp.rseq E_ok [0, 1, 2, 4, 5, 6, 7, 8, 9, 11, 12, 26, 28] fun K hK => ?_
      simp [encPat_eq, h12, h26]
      try simp (disch := omega) only [wrap_i64]
      repeat refine ⟨by first | omega | assumption | (simp only [maxLen]; omega) | (intros; omega) | decide, ?_⟩
      refine meet.of (date_Months p.start _) ?_
      simp [encPat_eq, h12, h26]
      try simp (disch := omega) only [wrap_i64]
      repeat refine ⟨by first | omega | assumption | (simp only [maxLen]; omega) | (intros; omega) | decide, ?_⟩
      refine hK _ ?_
      clear hK K
      -- region 11
      refine AWp.rseq E_ok [0, 1, 2, 4, 5, 6, 7, 8, 9, 11, 12, 26, 28] fun K hK => ?_
      simp [encPat_eq, h12, h26]
      try simp (disch := omega) only [wrap_i64]
      repeat refine ⟨by first | omega | assumption | (simp only [maxLen]; omega) | (intros; omega) | decide, ?_⟩
      refine hK _ ?_
      clear hK K
      refine AWp.ret ?_
      repeat first | refine thenN ?_ | refine thenX ?_ | refine thenR ?_ | refine blockN ?_ | refine blockR ?_ | refine blockX ?_ | refine blockM rfl ?_
      first | (simp [RetOk, RV, RVs, nomR, h12, Bool.decide_and]; done) | (simp [RetOk, RV, RVs, nomR, h12, sp]; done) | (simp [RetOk, RV, RVs, nomR, h12, sp]; exact Bool.beq_eq_decide_eq _ _)
    · try simp at h26
      -- region 8
      refine AWp.rseq E_ok [0, 1, 2, 4, 5, 6, 7, 8, 9, 11, 12, 26, 28] fun K hK => ?_
      simp [encPat_eq, h12, h26]
      try simp (disch := omega) only [wrap_i64]
      repeat refine ⟨by first | omega | assumption | (simp only [maxLen]; omega) | (intros; omega) | decide, ?_⟩
      refine hK _ ?_
      clear hK K
      refine AWp.cond rfl (fun h28 => ?_) (fun h28 => ?_)
      · try simp at h28
        have sp : stepP p = 12 := by unfold stepP; rw [if_neg h26, if_pos h28]
        -- region 9
        refine AWp.rend E_ok [0, 1, 2, 4, 5, 6, 7, 8, 9, 11, 12, 26, 28] fun K hK => ?_
        simp [encPat_eq, h12, h26, h28]
        try simp (disch := omega) only [wrap_i64]
        repeat refine ⟨by first | omega | assumption | (simp only [maxLen]; omega) | (intros; omega) | decide, ?_⟩
        refine hK _ ?_
        clear hK K
        repeat first | refine thenN ?_ | refine thenX ?_ | refine thenR ?_ | refine blockN ?_ | refine blockR ?_ | refine blockX ?_ | refine blockM rfl ?_
        -- region 10
        refine AWp.rseq E_ok [0, 1, 2, 4, 5, 6, 7, 8, 9, 11, 12, 26, 28] fun K hK => ?_
        simp [encPat_eq, h12, h26, h28]
        try simp (disch := omega) only [wrap_i64]
        repeat refine ⟨by first | omega | assumption | (simp only [maxLen]; omega) | (intros; omega) | decide, ?_⟩
        refine meet.of (date_Months p.start _) ?_
        simp [encPat_eq, h12, h26, h28]
        try simp (disch := omega) only [wrap_i64]
        repeat refine ⟨by first | omega | assumption | (simp only [maxLen]; omega) | (intros; omega) | decide, ?_⟩
        refine hK _ ?_
        clear hK K
        -- region 11
        refine AWp.rseq E_ok [0, 1, 2, 4, 5, 6, 7, 8, 9, 11, 12, 26, 28] fun K hK => ?_
        simp [encPat_eq, h12, h26, h28]
        try simp (disch := omega) only [wrap_i64]
        repeat refine ⟨by first | omega | assumption | (simp only [maxLen]; omega) | (intros; omega) | decide, ?_⟩
        refine hK _ ?_
        clear hK K
        refine AWp.ret ?_
        repeat first | refine thenN ?_ | refine thenX ?_ | refine thenR ?_ | refine blockN ?_ | refine blockR ?_ | refine blockX ?_ | refine blockM rfl ?_
        first | (simp [RetOk, RV, RVs, nomR, h12, Bool.decide_and]; done) | (simp [RetOk, RV, RVs, nomR, h12, sp]; done) | (simp [RetOk, RV, RVs, nomR, h12, sp]; exact Bool.beq_eq_decide_eq _ _)
      · try simp at h28
        have sp : stepP p = 1 := by unfold stepP; rw [if_neg h26, if_neg h28]
        refine AWp.skip ?_
        repeat first | refine thenN ?_ | refine thenX ?_ | refine thenR ?_ | refine blockN ?_ | refine blockR ?_ | refine blockX ?_ | refine blockM rfl ?_
        -- region 10
        refine AWp.rseq E_ok [0, 1, 2, 4, 5, 6, 7, 8, 9, 11, 12, 26, 28] fun K hK => ?_
        simp [encPat_eq, h12, h26, h28]
        try simp (disch := omega) only [wrap_i64]
        repeat refine ⟨by first | omega | assumption | (simp only [maxLen]; omega) | (intros; omega) | decide, ?_⟩
        refine meet.of (date_Months p.start _) ?_
        simp [encPat_eq, h12, h26, h28]
        try simp (disch := omega) only [wrap_i64]
        repeat refine ⟨by first | omega | assumption | (simp only [maxLen]; omega) | (intros; omega) | decide, ?_⟩
        refine hK _ ?_
        clear hK K
        -- region 11
        refine AWp.rseq E_ok [0, 1, 2, 4, 5, 6, 7, 8, 9, 11, 12, 26, 28] fun K hK => ?_
        simp [encPat_eq, h12, h26, h28]
        try simp (disch := omega) only [wrap_i64]
        repeat refine ⟨by first | omega | assumption | (simp only [maxLen]; omega) | (intros; omega) | decide, ?_⟩
        refine hK _ ?_
        clear hK K
        refine AWp.ret ?_
        repeat first | refine thenN ?_ | refine thenX ?_ | refine thenR ?_ | refine blockN ?_ | refine blockR ?_ | refine blockX ?_ | refine blockM rfl ?_
        first | (simp [RetOk, RV, RVs, nomR, h12, Bool.decide_and]; done) | (simp [RetOk, RV, RVs, nomR, h12, sp]; done) | (simp [RetOk, RV, RVs, nomR, h12, sp]; exact Bool.beq_eq_decide_eq _ _)
end Go.Proofs.Ytceapemkefaicaa

set_option maxRecDepth 100000
set_option linter.unusedSimpArgs false
set_option linter.unusedVariables false
namespace Go.Proofs.Ytceapemkefaicaa
open Go Ab Pl
theorem pattern_month (d : Int) : ACalls E.P 82 [.int .i64 d] (.d (.int .i64 (monthD d))) := by
  refine ACalls.intro E_ok Try.func82 rfl rfl Try.ntmps82 Try.results82 (Nat.le_of_ble_eq_true rfl) fun hok base S0 w0 => ?_
  -- region 0
  refine AWp.rseq E_ok [0, 2, 4] fun K hK => ?_
  simp
  repeat refine ⟨by first | omega | assumption | (simp only [maxLen]; omega) | (intros; omega) | decide, ?_⟩
  refine hK _ ?_
  clear hK K
  -- region 1
  refine AWp.rseq E_ok [0, 2, 4] fun K hK => ?_
  simp
  repeat refine ⟨by first | omega | assumption | (simp only [maxLen]; omega) | (intros; omega) | decide, ?_⟩
  refine meet.of (date_Parts d) ?_
  simp
  repeat refine ⟨by first | omega | assumption | (simp only [maxLen]; omega) | (intros; omega) | decide, ?_⟩
  refine hK _ ?_
  clear hK K
  -- region 2
  refine AWp.rseq E_ok [0, 2, 4] fun K hK => ?_
  simp
  repeat refine ⟨by first | omega | assumption | (simp only [maxLen]; omega) | (intros; omega) | decide, ?_⟩
  refine hK _ ?_
  clear hK K
  refine AWp.ret ?_
  repeat first | refine thenN ?_ | refine thenX ?_ | refine thenR ?_ | refine blockN ?_ | refine blockR ?_ | refine blockX ?_ | refine blockM rfl ?_
  simp [RetOk, RV, RVs, monthD]
end Go.Proofs.Ytceapemkefaicaa

set_option maxRecDepth 100000
set_option linter.unusedSimpArgs false
set_option linter.unusedVariables false
namespace Go.Proofs.Ytceapemkefaicaa
open Go Ab Pl
theorem pattern_next (p : Pat) (k0 : Int) (hp : PatOk p) (hk0 : 0 ≤ k0 ∧ k0 ≤ 16000) : ACalls E.P 81 [encPat p, .int .i64 k0] (.tup [.int .i64 ((scan p k0).1.getD 0), .int .i64 ((scan p k0).2 + (if (scan p k0).1.isSome then 1 else 0)), .bool (scan p k0).1.isSome]) := by
  refine ACalls.intro E_ok Try.func81 rfl rfl Try.ntmps81 Try.results81 (Nat.le_of_ble_eq_true rfl) fun hok base S0 w0 => ?_
  -- region 0
  refine AWp.rseq E_ok [0, 1, 2, 4, 5, 6, 7, 8, 9, 20, 33] fun K hK => ?_
  simp [encPat_eq, encInts_eq, monthD_1, monthD_2]
  try simp (disch := omega) only [wrap_i64]
  repeat refine ⟨by first | omega | assumption | (simp only [maxLen]; omega) | (intros; omega) | decide, ?_⟩
  refine hK _ ?_
  clear hK K
  -- region 1
  refine AWp.rseq E_ok [0, 1, 2, 4, 5, 6, 7, 8, 9, 20, 33] fun K hK => ?_
  simp [encPat_eq, encInts_eq, monthD_1, monthD_2]
  try simp (disch := omega) only [wrap_i64]
  repeat refine ⟨by first | omega | assumption | (simp only [maxLen]; omega) | (intros; omega) | decide, ?_⟩
  refine hK _ ?_
  clear hK K
  refine AWp.block ?_
  refine AWp.loop (ι := { k : Int // k0 ≤ k ∧ k ≤ 16000 ∧ scan p k = scan p k0 }) (fun x => match x with | ⟨k, hk, hk2, hsc⟩ => [(0, T.val (D.agg [D.int IntKind.i64 p.start, D.int IntKind.i64 p.every, D.int IntKind.i64 p.per, D.int IntKind.i64 p.first, (D.int IntKind.i64 0).slice (List.map (D.int IntKind.i64) p.skip), (D.int IntKind.i64 0).slice (List.map (D.int IntKind.i64) p.dbl)])), (1, T.val (D.int IntKind.i64 k0)), (2, T.box [C.d (D.int IntKind.i64 p.start), C.d (D.int IntKind.i64 p.every), C.d (D.int IntKind.i64 p.per), C.d (D.int IntKind.i64 p.first), C.d ((D.int IntKind.i64 0).slice (List.map (D.int IntKind.i64) p.skip)), C.d ((D.int IntKind.i64 0).slice (List.map (D.int IntKind.i64) p.dbl))]), (7, T.val (.int .i64 k))]) (fun x => match x with | ⟨k, hk, hk2, hsc⟩ => (16001 - k).toNat) ⟨k0, by omega, by omega, rfl⟩ ?_ ?_
  · simp [Weak, TW, encPat_eq, encInts_eq, monthD_1, monthD_2]
  rintro ⟨k, hk, hk2, hsc⟩
  simp only
  try simp only at hk
  try simp only at hk2
  try simp only at hsc
  refine AWp.seq ?_
  refine AWp.block ?_
  -- region 3
  refine AWp.rseq E_ok [0, 1, 2, 4, 5, 6, 7, 8, 9, 20, 33] fun K hK => ?_
  simp [encPat_eq, encInts_eq, monthD_1, monthD_2]
  try simp (disch := omega) only [wrap_i64]
  repeat refine ⟨by first | omega | assumption | (simp only [maxLen]; omega) | (intros; omega) | decide, ?_⟩
  refine meet.of (pattern_nominal p k hp (by omega)) ?_
  simp [encPat_eq, encInts_eq, monthD_1, monthD_2]
  try simp (disch := omega) only [wrap_i64]
  repeat refine ⟨by first | omega | assumption | (simp only [maxLen]; omega) | (intros; omega) | decide, ?_⟩
  refine hK _ ?_
  clear hK K
  refine AWp.seq ?_
  -- region 4
  refine AWp.rseq E_ok [0, 1, 2, 4, 5, 6, 7, 8, 9, 20, 33] fun K hK => ?_
  simp [encPat_eq, encInts_eq, monthD_1, monthD_2]
  try simp (disch := omega) only [wrap_i64]
  repeat refine ⟨by first | omega | assumption | (simp only [maxLen]; omega) | (intros; omega) | decide, ?_⟩
  refine hK _ ?_
  clear hK K
  refine AWp.cond rfl (fun h20 => ?_) (fun h20 => ?_)
  · try simp at h20
    have hb := scan_none hk2 (nom_no (by simpa using h20))
    -- region 5
    refine AWp.rseq E_ok [0, 1, 2, 4, 5, 6, 7, 8, 9, 20, 33] fun K hK => ?_
    simp [encPat_eq, encInts_eq, monthD_1, monthD_2]
    try simp (disch := omega) only [wrap_i64]
    repeat refine ⟨by first | omega | assumption | (simp only [maxLen]; omega) | (intros; omega) | decide, ?_⟩
    refine hK _ ?_
    clear hK K
    refine AWp.ret ?_
    repeat first | refine thenN ?_ | refine thenX ?_ | refine thenR ?_ | refine blockN ?_ | refine blockR ?_ | refine blockX ?_ | refine blockM rfl ?_
    rw [← hsc, hb]; simp [RetOk, RV, RVs]
  · try simp at h20
    have hn := nom_yes (p := p) (k := k) (by simpa using h20)
    have hlt := nom_lt hp hn
    refine AWp.skip ?_
    repeat first | refine thenN ?_ | refine thenX ?_ | refine thenR ?_ | refine blockN ?_ | refine blockR ?_ | refine blockX ?_ | refine blockM rfl ?_
    -- region 6
    refine AWp.rseqQ E_ok mixed [0, 1, 2, 4, 5, 6, 7, 8, 9, 20, 33] (by kernel_rfl) fun K hK => ?_
    simp [encPat_eq, encInts_eq, monthD_1, monthD_2]
    try simp (disch := omega) only [wrap_i64]
    repeat refine ⟨by first | omega | assumption | (simp only [maxLen]; omega) | (intros; omega) | decide, ?_⟩
    refine meet.of (pattern_month _) ?_
    simp [encPat_eq, encInts_eq, monthD_1, monthD_2]
    try simp (disch := omega) only [wrap_i64]
    repeat refine ⟨by first | omega | assumption | (simp only [maxLen]; omega) | (intros; omega) | decide, ?_⟩
    refine meet.of (slices_Contains_int_int p.skip _) ?_
    simp [encPat_eq, encInts_eq, monthD_1, monthD_2]
    try simp (disch := omega) only [wrap_i64]
    repeat refine ⟨by first | omega | assumption | (simp only [maxLen]; omega) | (intros; omega) | decide, ?_⟩
    refine hK _ ?_
    clear hK K
    refine AWp.cond rfl (fun h33 => ?_) (fun h33 => ?_)
    · try simp at h33
      have hb := scan_some hk2 hn (by rcases h33 with h | h <;> simp [h])
      -- region 7
      refine AWp.rseq E_ok [0, 1, 2, 4, 5, 6, 7, 8, 9, 20, 33] fun K hK => ?_
      simp [encPat_eq, encInts_eq, monthD_1, monthD_2]
      try simp (disch := omega) only [wrap_i64]
      repeat refine ⟨by first | omega | assumption | (simp only [maxLen]; omega) | (intros; omega) | decide, ?_⟩
      refine hK _ ?_
      clear hK K
      refine AWp.ret ?_
      repeat first | refine thenN ?_ | refine thenX ?_ | refine thenR ?_ | refine blockN ?_ | refine blockR ?_ | refine blockX ?_ | refine blockM rfl ?_
      rw [← hsc, hb]; simp [RetOk, RV, RVs]
    · try simp at h33
      have hb := scan_skip hk2 hn (by simpa using h33.2)
      refine AWp.skip ?_
      repeat first | refine thenN ?_ | refine thenX ?_ | refine thenR ?_ | refine blockN ?_ | refine blockR ?_ | refine blockX ?_ | refine blockM rfl ?_
      -- region 2
      refine AWp.rend E_ok [0, 1, 2, 4, 5, 6, 7, 8, 9, 20, 33] fun K hK => ?_
      simp [encPat_eq, encInts_eq, monthD_1, monthD_2]
      try simp (disch := omega) only [wrap_i64]
      repeat refine ⟨by first | omega | assumption | (simp only [maxLen]; omega) | (intros; omega) | decide, ?_⟩
      refine hK _ ?_
      clear hK K
      repeat first | refine thenN ?_ | refine thenX ?_ | refine thenR ?_ | refine blockN ?_ | refine blockR ?_ | refine blockX ?_ | refine blockM rfl ?_
      refine ⟨⟨k + 1, by omega, by omega, hb ▸ hsc⟩, ?_, by simp only; omega⟩
      simp [Weak, TW]
end Go.Proofs.Ytceapemkefaicaa

set_option maxRecDepth 100000
set_option linter.unusedSimpArgs false
set_option linter.unusedVariables false
namespace Go.Proofs.Ytceapemkefaicaa
open Go Ab Pl
open Go.RowKit Go.Shelf
attribute [local go_sem] Oper.semAt_some

/-- a pattern's value -/
abbrev pvP (p : Pat) (s1 s2 : Value) : Array Value := #[.int .i64 p.start, .int .i64 p.every, .int .i64 p.per, .int .i64 p.first, s1, s2]
/-- what the walks know of the world in which they began -/
structure PW (p : Pat) (s1 s2 : Value) (S : Nat → Nat → Prop) (w : World) : Prop where
  ok : PatOk p
  amb : Amb.G w S
  lt : ∀ b o, S b o → b < w.heap.size
  rep : Rep w S (encPat p) (.agg (pvP p s1 s2))
theorem PW.mono {p : Pat} {s1 s2 : Value} {S : Nat → Nat → Prop} {w w' : World} (h : PW p s1 s2 S w) (hW : Below w.heap.size w w') : PW p s1 s2 S w' :=
  ⟨h.ok, Amb.mono h.amb hW (fun _ _ _ hs => hs), fun b o hs => Nat.lt_of_lt_of_le (h.lt b o hs) hW.size, h.rep.mono (fun b o hs => hW.cell (h.lt b o hs)) (fun _ _ hs => hs)⟩
def kN (s : Option Int × Int) : Int := s.2 + (if s.1.isSome = true then 1 else 0)
theorem next_c {p : Pat} {s1 s2 : Value} {S : Nat → Nat → Prop} {W : World} (h : PW p s1 s2 S W) {k : Int} (hk : 0 ≤ k ∧ k ≤ 16000) :
    Calls Try.prog 81 #[.agg (pvP p s1 s2), .int .i64 k] W fun e W' => e = .returned (.tuple #[.int .i64 ((scan p k).1.getD 0), .int .i64 (kN (scan p k)), .bool (scan p k).1.isSome]) ∧ Below W.heap.size W W' := by
  obtain ⟨_, hc⟩ := pattern_next p k h.ok hk
  refine (hc W S #[.agg (pvP p s1 s2), .int .i64 k] h.amb h.lt rfl (fun i d hd => ?_)).mono ?_
  · match i, hd with
    | 0, hd => simp at hd; subst hd; exact h.rep
    | 1, hd => simp at hd; subst hd; exact .int _ _ (by simp; omega)
    | i + 2, hd => simp at hd
  · rintro e w' ⟨v, rfl, hb, arr, rfl, hsz, hre⟩
    have h0 := hre 0 _ rfl
    have h1 := hre 1 _ rfl
    have h2 := hre 2 _ rfl
    obtain ⟨l⟩ := arr
    match l, hsz with
    | [a, b, c], _ =>
      simp at h0 h1 h2
      cases h0; cases h1; cases h2
      exact ⟨rfl, hb⟩
theorem rep_len {w : World} {S : Nat → Nat → Prop} {l : List Int} {v : Value} (h : Rep w S (encInts l) v) : ∃ a c, v = .slice a l.length c := by
  unfold encInts at h
  generalize hm : l.map (D.int IntKind.i64) = es at h
  have hl : l.length = es.length := by rw [← hm]; simp
  cases h with
  | nil z a cap h => exact ⟨a, cap, by rw [hl]; rfl⟩
  | slice z sz hz es b off cap u h1 h2 h3 h4 h5 => exact ⟨_, cap, by rw [hl]⟩
theorem PW.skip {p : Pat} {s1 s2 : Value} {S : Nat → Nat → Prop} {w : World} (h : PW p s1 s2 S w) : Rep w S (encInts p.skip) s1 := by
  have := h.rep
  rw [encPat_eq] at this
  cases this with
  | agg cs vs hl hf h => exact h 4 _ rfl
theorem PW.dbl {p : Pat} {s1 s2 : Value} {S : Nat → Nat → Prop} {w : World} (h : PW p s1 s2 S w) : Rep w S (encInts p.dbl) s2 := by
  have := h.rep
  rw [encPat_eq] at this
  cases this with
  | agg cs vs hl hf h => exact h 5 _ rfl
theorem month_c {W : World} {S : Nat → Nat → Prop} (ha : Amb.G W S) (hS : ∀ b o, S b o → b < W.heap.size) {d : Int} (hd : 0 ≤ d ∧ d ≤ 109572) :
    Calls Try.prog 82 #[.int .i64 d] W fun e W' => e = .returned (.int .i64 (monthD d)) ∧ Below W.heap.size W W' := by
  obtain ⟨_, hc⟩ := pattern_month d
  refine (hc W S #[.int .i64 d] ha hS rfl (fun i c hi => ?_)).mono ?_
  · match i, hi with
    | 0, hi => simp at hi; subst hi; exact .int _ _ (by simp; omega)
    | i + 1, hi => simp at hi
  · rintro e w' ⟨v, rfl, hb, hre⟩
    cases hre
    exact ⟨rfl, hb⟩
theorem contains_c {W : World} {S : Nat → Nat → Prop} (ha : Amb.G W S) (hS : ∀ b o, S b o → b < W.heap.size) {l : List Int} {v : Value} (hr : Rep W S (encInts l) v) {d : Int} (hd : 0 ≤ d ∧ d ≤ 109572) :
    Calls Try.prog 64 #[v, .int .i64 d] W fun e W' => e = .returned (.bool (l.contains d)) ∧ Below W.heap.size W W' := by
  obtain ⟨_, hc⟩ := slices_Contains_int_int l d
  refine (hc W S #[v, .int .i64 d] ha hS rfl (fun i c hi => ?_)).mono ?_
  · match i, hi with
    | 0, hi => simp at hi; subst hi; exact hr
    | 1, hi => simp at hi; subst hi; exact .int _ _ (by simp; omega)
    | i + 2, hi => simp at hi
  · rintro e w' ⟨v, rfl, hb, hre⟩
    cases hre
    exact ⟨rfl, hb⟩
def Hid (P : Prop) : Prop := P
/-- the iterator's box -/
def xB (B : Nat) (W : World) (vol num last day : Int) : Prop := W.heap[B]? = some (.cells #[.int .i64 vol, .int .i64 num, .int .i64 last, .int .i64 day, .int .i64 1, .int .i64 0] 59)
theorem set_other {W : World} {p : Addr} {v : Value} {k : Nat} (h : k ≠ p.block) : (W.setCell p v).heap[k]? = W.heap[k]? := by
  simp [World.setCell, Array.getElem?_modify, Ne.symm h]
theorem set_turn {B : Nat} {W : World} (i : Nat) (v : Value) : Turn B W (W.setCell ⟨B, i, none⟩ v) :=
  ⟨rfl, rfl, rfl, by simp [World.setCell], fun k _ hk => set_other hk⟩
theorem xB.set0 {B : Nat} {W : World} {vol num last day : Int} (h : xB B W vol num last day) (v : Int) : xB B (W.setCell ⟨B, 0, none⟩ (.int .i64 v)) v num last day := by
  unfold xB at *; simp [World.setCell, Array.getElem?_modify, h]
theorem xB.set1 {B : Nat} {W : World} {vol num last day : Int} (h : xB B W vol num last day) (v : Int) : xB B (W.setCell ⟨B, 1, none⟩ (.int .i64 v)) vol v last day := by
  unfold xB at *; simp [World.setCell, Array.getElem?_modify, h]
theorem xB.set2 {B : Nat} {W : World} {vol num last day : Int} (h : xB B W vol num last day) (v : Int) : xB B (W.setCell ⟨B, 2, none⟩ (.int .i64 v)) vol num v day := by
  unfold xB at *; simp [World.setCell, Array.getElem?_modify, h]
theorem xB.set3 {B : Nat} {W : World} {vol num last day : Int} (h : xB B W vol num last day) (v : Int) : xB B (W.setCell ⟨B, 3, none⟩ (.int .i64 v)) vol num last v := by
  unfold xB at *; simp [World.setCell, Array.getElem?_modify, h]
theorem xB.cells {B : Nat} {A : World} {vol num last day : Int} (h : xB B A vol num last day) : A.cell? ⟨B, 0, none⟩ = some (.int .i64 vol) ∧ A.cell? ⟨B, 1, none⟩ = some (.int .i64 num) ∧ A.cell? ⟨B, 2, none⟩ = some (.int .i64 last) ∧ A.cell? ⟨B, 3, none⟩ = some (.int .i64 day) ∧ A.cell? ⟨B, 4, none⟩ = some (.int .i64 1) ∧ A.cell? ⟨B, 5, none⟩ = some (.int .i64 0) := by
  unfold xB at h; simp [World.cell?, h]
theorem xB.froz {B : Nat} {A : World} {vol num last day : Int} (h : xB B A vol num last day) : A.frozen? ⟨B, 0, none⟩ = false ∧ A.frozen? ⟨B, 1, none⟩ = false ∧ A.frozen? ⟨B, 2, none⟩ = false ∧ A.frozen? ⟨B, 3, none⟩ = false := by
  unfold xB at h; simp [World.frozen?, h]
theorem xB.turn {B : Nat} {A A' : World} {vol num last day : Int} (h : xB B A vol num last day) (hb : A'.heap[B]? = A.heap[B]?) : xB B A' vol num last day := by
  unfold xB at *; rw [hb]; exact h
set_option maxHeartbeats 40000000 in
theorem iss1 (F : Fence) (hF : F = Fence.wide) (p : Pat) (s1 : Value) (a2 : Option Addr) (c2 : Nat) (S : Nat → Nat → Prop) (w0 : World) (hw : PW p s1 (.slice a2 p.dbl.length c2) S w0) (l B Bp : Nat) (J Jx : List Iss → World → Prop)
    (hJ : ∀ s A A', J s A → Turn B A A' → J s A') (hJx : ∀ s A A', Jx s A → Turn B A A' → Jx s A')
    (hY : ∀ pre x W1, J pre W1 → B < W1.heap.size → pre ++ [x] <+: allI p → YieldAt F 1 Try.prog l #[.agg #[.int .i64 x.vol, .int .i64 x.num, .int .i64 x.last, .int .i64 x.day, .int .i64 x.st, .int .i64 x.item]] W1 fun e W' =>
      (e = .returned (.bool true) ∧ J (pre ++ [x]) W' ∧ Keep w0.heap.size (fun k => k = Bp ∨ k = B) W1 W') ∨ (e = .returned (.bool false) ∧ Jx (pre ++ [x]) W'))
    (W : World) (hB : W.heap.size = B) (h0 : Below w0.heap.size w0 W) (hBp : W.heap[Bp]? = some (.cells (pvP p s1 (.slice a2 p.dbl.length c2)) 24)) (hJ0 : J [] W) :
    CallsIn F 2 Try.prog 80 #[.func (.yield l) #[] #[], .pointer (some ⟨Bp, 0, none⟩)] W fun e W' => (∃ v, e = .returned v) ∧ (J (allI p) W' ∨ ∃ pre, pre <+: allI p ∧ Jx pre W') := by
  have hro : F.round = none := by rw [hF]; rfl
  refine callsIn_of_wp Try.func80 rfl (by rw [hF]; trivial) ?_ hro
  simp only [Try.ntmps80, List.size_toArray, List.length_cons, List.length_nil, Nat.reduceAdd, Nat.reduceSub, Array.replicate_succ, Array.replicate_zero, List.push_toArray, List.append_toArray, List.nil_append, List.cons_append]
  subst hF
  have hlt : Bp < W.heap.size := (Array.getElem?_eq_some_iff.1 hBp).1
  have cp : ∀ {A : World}, A.heap[Bp]? = W.heap[Bp]? → A.cell? ⟨Bp, 0, none⟩ = some (.int .i64 p.start) ∧ A.cell? ⟨Bp, 1, none⟩ = some (.int .i64 p.every) ∧ A.cell? ⟨Bp, 2, none⟩ = some (.int .i64 p.per) ∧ A.cell? ⟨Bp, 3, none⟩ = some (.int .i64 p.first) ∧ A.cell? ⟨Bp, 4, none⟩ = some s1 ∧ A.cell? ⟨Bp, 5, none⟩ = some (.slice a2 p.dbl.length c2) := fun {_} h => by
    rw [hBp] at h; simp [World.cell?, h, pvP]
  obtain ⟨p0, p1, p2, p3, p4, p5⟩ := cp (A := W) rfl
  have q : ∀ X, (W.alloc X).heap[Bp]? = W.heap[Bp]? := fun X => Below.heap_alloc W X Bp hlt
  have q0 := fun X => (cp (q X)).1
  have q1 := fun X => (cp (q X)).2.1
  have q2 := fun X => (cp (q X)).2.2.1
  have q3 := fun X => (cp (q X)).2.2.2.1
  have q4 := fun X => (cp (q X)).2.2.2.2.1
  have q5 := fun X => (cp (q X)).2.2.2.2.2
  have hwa : ∀ X, PW p s1 (.slice a2 p.dbl.length c2) S (W.alloc X) := fun X => (hw.mono h0).mono ((Below.refl _ W).alloc (Nat.le_refl _) X)
  gi_wp2_with (refine ⟨trivial, ?_⟩; gi_at_call 81; refine (callsIn_wide.2 (next_c (hwa _) (k := 0) ⟨by omega, by omega⟩)).mono ?_; rintro e w1 ⟨rfl, hb1⟩)
  have hB1 : Turn B W w1 := (Turn.alloc _).trans (Turn.of_below hb1)
  have hp1 : w1.heap[Bp]? = W.heap[Bp]? := hB1.block Bp hlt (by omega)
  have hx1 : xB B w1 p.first 1 0 0 := by
    unfold xB
    rw [hb1.block B (by simp [← hB])]
    rw [← hB]; exact World.alloc_heap_new W _
  have hd1 : Below w0.heap.size w0 w1 := h0.trans (hB1.below h0.size (by rw [← hB]; exact h0.size))
  gi_loopw [4, 5, 6, 7] (fun v4 v5 v6 v7 wr => ∃ (pre : List Iss) (f : Nat) (vol num last day k' : Int) (s : Option Int × Int), v4 = .int .i64 (s.1.getD 0) ∧ v5 = .int .i64 k' ∧ v6 = .bool s.1.isSome ∧ v7 = .int .i64 (5000 - (f : Int)) ∧
      allI p = pre ++ issF p f vol num s ∧ J pre wr ∧ xB B wr vol num last day ∧ wr.heap[Bp]? = W.heap[Bp]? ∧ Below w0.heap.size w0 wr ∧ f ≤ 5000 ∧ (1 ≤ vol ∧ vol ≤ 10000) ∧ (1 ≤ num ∧ num ≤ p.per) ∧ (∀ d, s.1 = some d → (0 ≤ d ∧ d ≤ 109572) ∧ 0 ≤ s.2 ∧ s.2 < 16000) ∧ k' = kN s)
    (fun v4 v5 v6 v7 wr => (5000 - intOf v7).toNat)
  case atStart =>
    have hk := hw.ok
    exact ⟨[], 5000, p.first, 1, 0, 0, _, scan p 0, rfl, rfl, rfl, rfl, rfl, hJ _ _ _ hJ0 hB1, hx1, hp1, hd1, by omega, by have := hk.2.2.2; omega, by have := hk.2.2.1; omega, fun d hd => by have := scan_at hk (by omega) (by omega) hd; omega, rfl⟩
  case round =>
    obtain ⟨pre, f, vol, num, last, day, k', s, rfl, rfl, rfl, rfl, hx, hJs, hxb, hpb, hbw, hf, hvol, hnum, hs, hk'⟩ := hrel
    have fin : issF p f vol num s = [] → Hid (J (allI p) wr) := fun h => by show J (allI p) wr; rw [hx, h, List.append_nil]; exact hJs
    replace hx : Hid (allI p = pre ++ issF p f vol num s) := hx
    have hne : ¬ Bp = B := by omega
    have hne' : ¬ B = Bp := by omega
    obtain ⟨x0, x1, x2, x3, x4, x5⟩ := hxb.cells
    obtain ⟨f0, f1, f2, f3⟩ := hxb.froz
    clear p0 p1 p2 p3 p4 p5 q0 q1 q2 q3 q4 q5 q hwa
    obtain ⟨p0, p1, p2, p3, p4, p5⟩ := cp (A := wr) hpb
    match f, s with
    | 0, s =>
      clear hx
      gi_wp2
      go_end0
      exact ⟨⟨_, rfl⟩, .inl (fin rfl)⟩
    | f + 1, (none, k) =>
      clear hx
      have h5 : (5000 : Int) - ((f + 1 : Nat) : Int) < 5000 := by omega
      gi_wp2
      go_end0
      exact ⟨⟨_, rfl⟩, .inl (fin (issF_none _ _ _ _ _))⟩
    | f + 1, (some dy, k) =>
      have h5 : (5000 : Int) - ((f + 1 : Nat) : Int) < 5000 := by omega
      obtain ⟨hdy, hk0, hk1⟩ := hs dy rfl
      obtain rfl : k' = k + 1 := hk'
      clear hs
      simp only at hk0 hk1
      by_cases hv : vol ≤ 9999
      · have hx2 := (hxb.set3 dy).set2 0
        have ht2 : Turn B wr ((wr.setCell ⟨B, 3, none⟩ (.int .i64 dy)).setCell ⟨B, 2, none⟩ (.int .i64 0)) := (set_turn 3 _).trans (set_turn 2 _)
        have hlr : Bp < wr.heap.size := (Array.getElem?_eq_some_iff.1 (hpb.trans hBp)).1
        gi_wp2
        generalize (wr.setCell ⟨B, 3, none⟩ (.int .i64 dy)).setCell ⟨B, 2, none⟩ (.int .i64 0) = W2 at hx2 ht2 ⊢
        have hn2 : w0.heap.size ≤ B := by rw [← hB]; exact h0.size
        have hp2 : W2.heap[Bp]? = W.heap[Bp]? := (ht2.block Bp hlr (by omega)).trans hpb
        have hw2 : Below w0.heap.size w0 W2 := hbw.trans (ht2.below hbw.size hn2)
        have hg2 := hw.mono hw2
        clear x0 x1 x2 x3 x4 x5 f0 f1 f2 f3 p0 p1 p2 p3 p4 p5
        obtain ⟨x0, x1, x2, x3, x4, x5⟩ := hx2.cells
        obtain ⟨f0, f1, f2, f3⟩ := hx2.froz
        obtain ⟨p0, p1, p2, p3, p4, p5⟩ := cp hp2
        have k1 := cell_regrown x1
        have k2 := cell_regrown p2
        have k5 := cell_regrown p5
        have cM : ∀ d os, Calls Try.prog 82 #[.int .i64 dy] (Go.Sort.grow (redrawn W2 d) os) fun e w'' => e = .returned (.int .i64 (monthD dy)) ∧ ∃ p : Regrown, w'' = Go.Sort.grow (redrawn W2 p.d) p.os := fun d os =>
          Calls.regrown_of (month_c (hg2.mono (below_regrown W2 d os)).amb (hg2.mono (below_regrown W2 d os)).lt hdy)
        have cC : ∀ d os, Calls Try.prog 64 #[.slice a2 p.dbl.length c2, .int .i64 (monthD dy)] (Go.Sort.grow (redrawn W2 d) os) fun e w'' => e = .returned (.bool (p.dbl.contains (monthD dy))) ∧ ∃ p : Regrown, w'' = Go.Sort.grow (redrawn W2 p.d) p.os := fun d os =>
          Calls.regrown_of (contains_c (hg2.mono (below_regrown W2 d os)).amb (hg2.mono (below_regrown W2 d os)).lt (hg2.mono (below_regrown W2 d os)).dbl (by have := monthD_any dy; omega))
        by_cases hd0 : 0 < p.dbl.length
        · have hd1 : (0 : Int) < (p.dbl.length : Int) := by omega
          cases hcc : p.dbl.contains (monthD dy) with
          | true =>
            rw [hcc] at cC
            by_cases hnp : num < p.per
            · cases hso : (scan p (k + 1)).1.isSome with
              | false =>
                have hdb : dblB p num dy (scan p (k + 1)) = false := by unfold dblB; rw [hso]; simp
                have hi : Hid (allI p = (pre ++ [Iss.mk vol num 0 dy 1 0]) ++ issF p f (volN p vol (num + 1)) (numN p (num + 1)) (scan p (k + 1))) := by show allI p = _; rw [show allI p = _ from hx, issF_one p f vol num dy k hv hdb]; simp
                have hpre : pre ++ [Iss.mk vol num 0 dy 1 0] <+: allI p := ⟨_, Eq.symm hi⟩
                refine wpIn_wide.2 (wp_region_quiet_below (show Try.prog.follows .mixedOrders = true from mixed) (by kernel_rfl) ?_)
                repeat (quiet_step (first | exact cM _ _ | exact cC _ _))
                refine wpQuiet_nil ?_
                intro _ hw'
                obtain ⟨⟨dq, osq⟩, hw''⟩ := hw'
                subst hw''
                have hb3 := below_regrown W2 dq osq
                generalize Go.Sort.grow (redrawn W2 dq) osq = W3 at hb3 ⊢
                have hg3 := hg2.mono hb3
                have hlB : B < W2.heap.size := (Array.getElem?_eq_some_iff.1 hx2).1
                have hlP : Bp < W2.heap.size := (Array.getElem?_eq_some_iff.1 (hp2.trans hBp)).1
                have hx3 := hx2.turn (hb3.block B hlB)
                have hp3 := (hb3.block Bp hlP).trans hp2
                have ht3 := ht2.trans (Turn.of_below hb3)
                have hper : p.per ≤ 366 := hw.ok.2.2.1.2
                clear k1 k2 k5 cM cC x0 x1 x2 x3 x4 x5 f0 f1 f2 f3 p0 p1 p2 p3 p4 p5
                obtain ⟨x0, x1, x2, x3, x4, x5⟩ := hx3.cells
                obtain ⟨p0, p1, p2, p3, p4, p5⟩ := cp hp3
                have a4 : ∀ w4, Below W3.heap.size W3 w4 → xB B w4 vol num 0 dy ∧ w4.heap[Bp]? = W.heap[Bp]? ∧ Turn B wr w4 ∧ B < w4.heap.size ∧ Bp < w4.heap.size := fun w4 hb4 =>
                  ⟨hx3.turn (hb4.block B (Nat.lt_of_lt_of_le hlB hb3.size)), (hb4.block Bp (Nat.lt_of_lt_of_le hlP hb3.size)).trans hp3, ht3.trans (Turn.of_below hb4), Nat.lt_of_lt_of_le hlB (Nat.le_trans hb3.size hb4.size), Nat.lt_of_lt_of_le hlP (Nat.le_trans hb3.size hb4.size)⟩
                have hn1 := callsIn_wide (n := 1).2 (next_c hg3 (k := k + 1) ⟨by omega, by omega⟩)
                gi_wp2_with (refine ⟨trivial, ?_⟩; gi_at_call 81; refine hn1.mono ?_; clear hn1; rintro e w4 ⟨rfl, hb4⟩; obtain ⟨hx4, hp4, ht4, hl4, hm4⟩ := a4 w4 hb4; obtain ⟨y0, y1, y2, y3, y4, y5⟩ := hx4.cells; obtain ⟨fn, tmps, assign, body, hy, hR⟩ := hY pre (Iss.mk vol num 0 dy 1 0) w4 (hJ _ _ _ hJs ht4) hl4 hpre)
                refine hR.mono ?_
                rintro e W5 (⟨rfl, hJ5, hk5⟩ | ⟨rfl, hJx5⟩)
                · have hx5 := hx4.turn (hk5.same B (.inr rfl) hl4)
                  have hp5 := (hk5.same Bp (.inl rfl) hm4).trans hp4
                  have hw5 : Below w0.heap.size w0 W5 := (hbw.trans (ht4.below hbw.size hn2)).trans hk5.below
                  clear x0 x1 x2 x3 x4 x5 p0 p1 p2 p3 p4 p5 y0 y1 y2 y3 y4 y5
                  obtain ⟨x0, x1, x2, x3, x4, x5⟩ := hx5.cells
                  obtain ⟨g0, g1, g2, g3⟩ := hx5.froz
                  obtain ⟨p0, p1, p2, p3, p4, p5⟩ := cp hp5
                  have m0 : max num 0 = num := by omega
                  have m1 : wrap64 (num + 1) = num + 1 := by unfold wrap64; omega
                  have m2 : wrap64 (vol + 1) = vol + 1 := by unfold wrap64; omega
                  gi_wp2
                  · have hc : ¬ p.per < num + 1 := by omega
                    have e1 : volN p vol (num + 1) = vol := if_neg hc
                    have e2 : numN p (num + 1) = num + 1 := if_neg hc
                    rw [e1, e2] at hi
                    replace hi : allI p = _ := hi
                    refine ⟨⟨pre ++ [Iss.mk vol num 0 dy 1 0], f, vol, num + 1, 0, dy, _, scan p (k + 1), by first | rfl | rw [hso], by first | rfl | rw [hso], by first | rfl | rw [hso], by congr 1; omega, hi, hJ _ _ _ hJ5 (set_turn 1 _), hx5.set1 _, ?_, ?_, by omega, by omega, by omega, fun d hd => ?_, rfl⟩, by simp [intOf]; omega⟩
                    · exact (set_other (by simpa using hne)).trans hp5
                    · exact hw5.trans ((set_turn 1 _).below hw5.size hn2)
                    · have := scan_at hw.ok (by omega) (by omega) hd; omega
                · gi_wp2
                  refine bodyPost_ret (results_none rfl _ _ _) rfl ?_
                  exact ⟨⟨_, rfl⟩, .inr ⟨_, hpre, hJx5⟩⟩
              | true =>
                obtain ⟨d2, k2, hsc⟩ : ∃ d2 k2, scan p (k + 1) = (some d2, k2) := by
                  cases hh : scan p (k + 1) with
                  | mk a b => cases a with
                    | none => rw [hh] at hso; cases hso
                    | some d2 => exact ⟨d2, b, rfl⟩
                have hdb : dblB p num dy (scan p (k + 1)) = true := by unfold dblB; rw [hcc, hsc]; simp [hnp]
                have hat := scan_at hw.ok (k := k + 1) (d := d2) (by omega) (by omega) (by rw [hsc])
                rw [hsc] at hat
                simp only at hat
                have hi : Hid (allI p = (pre ++ [Iss.mk vol num (num + 1) dy 1 0]) ++ issF p f (volN p vol (num + 1 + 1)) (numN p (num + 1 + 1)) (scan p (k2 + 1))) := by show allI p = _; rw [show allI p = _ from hx, issF_dbl p f vol num dy k hv hdb, hsc, show num + 2 = num + 1 + 1 by omega]; simp
                have hpre : pre ++ [Iss.mk vol num (num + 1) dy 1 0] <+: allI p := ⟨_, Eq.symm hi⟩
                refine wpIn_wide.2 (wp_region_quiet_below (show Try.prog.follows .mixedOrders = true from mixed) (by kernel_rfl) ?_)
                repeat (quiet_step (first | exact cM _ _ | exact cC _ _))
                refine wpQuiet_nil ?_
                intro _ hw'
                obtain ⟨⟨dq, osq⟩, hw''⟩ := hw'
                subst hw''
                have hb3 := below_regrown W2 dq osq
                generalize Go.Sort.grow (redrawn W2 dq) osq = W3 at hb3 ⊢
                have hg3 := hg2.mono hb3
                have hlB : B < W2.heap.size := (Array.getElem?_eq_some_iff.1 hx2).1
                have hlP : Bp < W2.heap.size := (Array.getElem?_eq_some_iff.1 (hp2.trans hBp)).1
                have hx3 := hx2.turn (hb3.block B hlB)
                have hp3 := (hb3.block Bp hlP).trans hp2
                have ht3 := ht2.trans (Turn.of_below hb3)
                have hper : p.per ≤ 366 := hw.ok.2.2.1.2
                clear k1 k5 cM cC x0 x1 x2 x3 x4 x5 f0 f1 f2 f3 p0 p1 p2 p3 p4 p5
                obtain ⟨x0, x1, x2, x3, x4, x5⟩ := hx3.cells
                obtain ⟨p0, p1, p2, p3, p4, p5⟩ := cp hp3
                have a4 : ∀ w4, Below W3.heap.size W3 w4 → xB B w4 vol num 0 dy ∧ w4.heap[Bp]? = W.heap[Bp]? ∧ Turn B wr w4 ∧ B < w4.heap.size ∧ Bp < w4.heap.size := fun w4 hb4 =>
                  ⟨hx3.turn (hb4.block B (Nat.lt_of_lt_of_le hlB hb3.size)), (hb4.block Bp (Nat.lt_of_lt_of_le hlP hb3.size)).trans hp3, ht3.trans (Turn.of_below hb4), Nat.lt_of_lt_of_le hlB (Nat.le_trans hb3.size hb4.size), Nat.lt_of_lt_of_le hlP (Nat.le_trans hb3.size hb4.size)⟩
                have m3 : wrap64 (num + 1) = num + 1 := by unfold wrap64; omega
                have hn1 : CallsIn Fence.wide 1 Try.prog 81 #[.agg (pvP p s1 (.slice a2 p.dbl.length c2)), .int .i64 (k + 1)] W3 fun e W' => e = .returned (.tuple #[.int .i64 d2, .int .i64 (k2 + 1), .bool true]) ∧ Below W3.heap.size W3 W' := by
                  have := callsIn_wide (n := 1).2 (next_c hg3 (k := k + 1) ⟨by omega, by omega⟩)
                  rw [hsc] at this
                  exact this
                have a5 : ∀ w3, xB B w3 vol num 0 dy → w3.heap[Bp]? = W.heap[Bp]? → Turn B wr w3 → CallsIn Fence.wide 1 Try.prog 81 #[.agg (pvP p s1 (.slice a2 p.dbl.length c2)), .int .i64 (k2 + 1)] (w3.setCell ⟨B, 2, none⟩ (.int .i64 (num + 1))) fun e W' =>
                    e = .returned (.tuple #[.int .i64 ((scan p (k2 + 1)).1.getD 0), .int .i64 (kN (scan p (k2 + 1))), .bool (scan p (k2 + 1)).1.isSome]) ∧ Below (w3.setCell ⟨B, 2, none⟩ (.int .i64 (num + 1))).heap.size (w3.setCell ⟨B, 2, none⟩ (.int .i64 (num + 1))) W' := fun w3 _ _ hta =>
                  callsIn_wide.2 (next_c (hw.mono (hbw.trans ((hta.trans (set_turn 2 _)).below hbw.size hn2))) ⟨by omega, by omega⟩)
                have a6 : ∀ w3 w4, xB B w3 vol num 0 dy → w3.heap[Bp]? = W.heap[Bp]? → Turn B wr w3 → Below (w3.setCell ⟨B, 2, none⟩ (.int .i64 (num + 1))).heap.size (w3.setCell ⟨B, 2, none⟩ (.int .i64 (num + 1))) w4 →
                    xB B w4 vol num (num + 1) dy ∧ w4.heap[Bp]? = W.heap[Bp]? ∧ Turn B wr w4 ∧ B < w4.heap.size ∧ Bp < w4.heap.size := fun w3 w4 hxa hpa hta hb => by
                  have hs : (w3.setCell ⟨B, 2, none⟩ (.int .i64 (num + 1))).heap.size = w3.heap.size := by simp [World.setCell]
                  have lB := (Array.getElem?_eq_some_iff.1 hxa).1
                  have lP := (Array.getElem?_eq_some_iff.1 (hpa.trans hBp)).1
                  have hz := hb.size
                  exact ⟨(hxa.set2 _).turn (hb.block B (by omega)), (hb.block Bp (by omega)).trans ((set_other (by simpa using hne)).trans hpa), (hta.trans (set_turn 2 _)).trans (Turn.of_below hb), by omega, by omega⟩
                gi_wp2_with (first | (refine ⟨trivial, ?_⟩; gi_at_call 81; refine hn1.mono ?_; clear hn1; rintro e w3 ⟨rfl, hb4⟩; obtain ⟨hxa, hpa, hta, hla, hma⟩ := a4 w3 hb4; obtain ⟨z0, z1, z2, z3, z4, z5⟩ := hxa.cells; obtain ⟨g0, g1, g2, g3⟩ := hxa.froz; obtain ⟨r0, r1, r2, r3, r4, r5⟩ := cp hpa; have hn2 := a5 w3 hxa hpa hta) | (refine ⟨trivial, ?_⟩; gi_at_call 81; refine hn2.mono ?_; clear hn2; rintro e w4 ⟨rfl, hb6⟩; obtain ⟨hx4, hp4, ht4, hl4, hm4⟩ := a6 _ w4 hxa hpa hta hb6; obtain ⟨y0, y1, y2, y3, y4, y5⟩ := hx4.cells; obtain ⟨fn, tmps, assign, body, hy, hR⟩ := hY pre (Iss.mk vol num (num + 1) dy 1 0) w4 (hJ _ _ _ hJs ht4) hl4 hpre))
                refine hR.mono ?_
                rintro e W5 (⟨rfl, hJ5, hk5⟩ | ⟨rfl, hJx5⟩)
                · have hx5 := hx4.turn (hk5.same B (.inr rfl) hl4)
                  have hp5 := (hk5.same Bp (.inl rfl) hm4).trans hp4
                  have hw5 : Below w0.heap.size w0 W5 := (hbw.trans (ht4.below hbw.size hn2)).trans hk5.below
                  clear x0 x1 x2 x3 x4 x5 p0 p1 p2 p3 p4 p5 y0 y1 y2 y3 y4 y5
                  obtain ⟨x0, x1, x2, x3, x4, x5⟩ := hx5.cells
                  obtain ⟨g0, g1, g2, g3⟩ := hx5.froz
                  obtain ⟨p0, p1, p2, p3, p4, p5⟩ := cp hp5
                  have m0 : max num (num + 1) = num + 1 := by omega
                  have m1 : wrap64 (num + 1 + 1) = num + 1 + 1 := by unfold wrap64; omega
                  have m2 : wrap64 (vol + 1) = vol + 1 := by unfold wrap64; omega
                  gi_wp2
                  · have hc : p.per < num + 1 + 1 := by assumption
                    have e1 : volN p vol (num + 1 + 1) = vol + 1 := if_pos hc
                    have e2 : numN p (num + 1 + 1) = 1 := if_pos hc
                    rw [e1, e2] at hi
                    replace hi : allI p = _ := hi
                    refine ⟨⟨pre ++ [Iss.mk vol num (num + 1) dy 1 0], f, vol + 1, 1, num + 1, dy, _, scan p (k2 + 1), by first | rfl | rw [hso], by first | rfl | rw [hso], by first | rfl | rw [hso], by congr 1; omega, hi, hJ _ _ _ hJ5 (((set_turn 1 _).trans (set_turn 0 _)).trans (set_turn 1 _)), ((hx5.set1 _).set0 _).set1 _, ?_, ?_, by omega, by omega, by omega, fun d hd => ?_, rfl⟩, by simp [intOf]; omega⟩
                    · exact ((set_other (by simpa using hne)).trans ((set_other (by simpa using hne)).trans (set_other (by simpa using hne)))).trans hp5
                    · exact hw5.trans ((((set_turn 1 _).trans (set_turn 0 _)).trans (set_turn 1 _)).below hw5.size hn2)
                    · have := scan_at hw.ok (by omega) (by omega) hd; omega
                  · have hc : ¬ p.per < num + 1 + 1 := by have : num + 1 + 1 ≤ p.per := (by assumption); omega
                    have e1 : volN p vol (num + 1 + 1) = vol := if_neg hc
                    have e2 : numN p (num + 1 + 1) = num + 1 + 1 := if_neg hc
                    rw [e1, e2] at hi
                    replace hi : allI p = _ := hi
                    refine ⟨⟨pre ++ [Iss.mk vol num (num + 1) dy 1 0], f, vol, num + 1 + 1, num + 1, dy, _, scan p (k2 + 1), by first | rfl | rw [hso], by first | rfl | rw [hso], by first | rfl | rw [hso], by congr 1; omega, hi, hJ _ _ _ hJ5 (set_turn 1 _), hx5.set1 _, ?_, ?_, by omega, by omega, by omega, fun d hd => ?_, rfl⟩, by simp [intOf]; omega⟩
                    · exact (set_other (by simpa using hne)).trans hp5
                    · exact hw5.trans ((set_turn 1 _).below hw5.size hn2)
                    · have := scan_at hw.ok (by omega) (by omega) hd; omega
                · gi_wp2
                  refine bodyPost_ret (results_none rfl _ _ _) rfl ?_
                  exact ⟨⟨_, rfl⟩, .inr ⟨_, hpre, hJx5⟩⟩
            · have hnp' : decide (num < p.per) = false := decide_eq_false hnp
              have hdb : dblB p num dy (scan p (k + 1)) = false := by unfold dblB; rw [hnp']; simp
              have hi : Hid (allI p = (pre ++ [Iss.mk vol num 0 dy 1 0]) ++ issF p f (volN p vol (num + 1)) (numN p (num + 1)) (scan p (k + 1))) := by show allI p = _; rw [show allI p = _ from hx, issF_one p f vol num dy k hv hdb]; simp
              have hpre : pre ++ [Iss.mk vol num 0 dy 1 0] <+: allI p := ⟨_, Eq.symm hi⟩
              refine wpIn_wide.2 (wp_region_quiet_below (show Try.prog.follows .mixedOrders = true from mixed) (by kernel_rfl) ?_)
              repeat (quiet_step (first | exact cM _ _ | exact cC _ _))
              refine wpQuiet_nil ?_
              intro _ hw'
              obtain ⟨⟨dq, osq⟩, hw''⟩ := hw'
              subst hw''
              have hb3 := below_regrown W2 dq osq
              generalize Go.Sort.grow (redrawn W2 dq) osq = W3 at hb3 ⊢
              have hg3 := hg2.mono hb3
              have hlB : B < W2.heap.size := (Array.getElem?_eq_some_iff.1 hx2).1
              have hlP : Bp < W2.heap.size := (Array.getElem?_eq_some_iff.1 (hp2.trans hBp)).1
              have hx3 := hx2.turn (hb3.block B hlB)
              have hp3 := (hb3.block Bp hlP).trans hp2
              have ht3 := ht2.trans (Turn.of_below hb3)
              have hper : p.per ≤ 366 := hw.ok.2.2.1.2
              clear k1 k2 k5 cM cC x0 x1 x2 x3 x4 x5 f0 f1 f2 f3 p0 p1 p2 p3 p4 p5
              obtain ⟨x0, x1, x2, x3, x4, x5⟩ := hx3.cells
              obtain ⟨p0, p1, p2, p3, p4, p5⟩ := cp hp3
              have a4 : ∀ w4, Below W3.heap.size W3 w4 → xB B w4 vol num 0 dy ∧ w4.heap[Bp]? = W.heap[Bp]? ∧ Turn B wr w4 ∧ B < w4.heap.size ∧ Bp < w4.heap.size := fun w4 hb4 =>
                ⟨hx3.turn (hb4.block B (Nat.lt_of_lt_of_le hlB hb3.size)), (hb4.block Bp (Nat.lt_of_lt_of_le hlP hb3.size)).trans hp3, ht3.trans (Turn.of_below hb4), Nat.lt_of_lt_of_le hlB (Nat.le_trans hb3.size hb4.size), Nat.lt_of_lt_of_le hlP (Nat.le_trans hb3.size hb4.size)⟩
              have hn1 := callsIn_wide (n := 1).2 (next_c hg3 (k := k + 1) ⟨by omega, by omega⟩)
              gi_wp2_with (refine ⟨trivial, ?_⟩; gi_at_call 81; refine hn1.mono ?_; clear hn1; rintro e w4 ⟨rfl, hb4⟩; obtain ⟨hx4, hp4, ht4, hl4, hm4⟩ := a4 w4 hb4; obtain ⟨y0, y1, y2, y3, y4, y5⟩ := hx4.cells; obtain ⟨fn, tmps, assign, body, hy, hR⟩ := hY pre (Iss.mk vol num 0 dy 1 0) w4 (hJ _ _ _ hJs ht4) hl4 hpre)
              refine hR.mono ?_
              rintro e W5 (⟨rfl, hJ5, hk5⟩ | ⟨rfl, hJx5⟩)
              · have hx5 := hx4.turn (hk5.same B (.inr rfl) hl4)
                have hp5 := (hk5.same Bp (.inl rfl) hm4).trans hp4
                have hw5 : Below w0.heap.size w0 W5 := (hbw.trans (ht4.below hbw.size hn2)).trans hk5.below
                clear x0 x1 x2 x3 x4 x5 p0 p1 p2 p3 p4 p5 y0 y1 y2 y3 y4 y5
                obtain ⟨x0, x1, x2, x3, x4, x5⟩ := hx5.cells
                obtain ⟨g0, g1, g2, g3⟩ := hx5.froz
                obtain ⟨p0, p1, p2, p3, p4, p5⟩ := cp hp5
                have m0 : max num 0 = num := by omega
                have m1 : wrap64 (num + 1) = num + 1 := by unfold wrap64; omega
                have m2 : wrap64 (vol + 1) = vol + 1 := by unfold wrap64; omega
                gi_wp2
                · have hc : p.per < num + 1 := by omega
                  have e1 : volN p vol (num + 1) = vol + 1 := if_pos hc
                  have e2 : numN p (num + 1) = 1 := if_pos hc
                  rw [e1, e2] at hi
                  replace hi : allI p = _ := hi
                  refine ⟨⟨pre ++ [Iss.mk vol num 0 dy 1 0], f, vol + 1, 1, 0, dy, _, scan p (k + 1), by first | rfl | rw [hso], by first | rfl | rw [hso], by first | rfl | rw [hso], by congr 1; omega, hi, hJ _ _ _ hJ5 (((set_turn 1 _).trans (set_turn 0 _)).trans (set_turn 1 _)), ((hx5.set1 _).set0 _).set1 _, ?_, ?_, by omega, by omega, by omega, fun d hd => ?_, rfl⟩, by simp [intOf]; omega⟩
                  · exact ((set_other (by simpa using hne)).trans ((set_other (by simpa using hne)).trans (set_other (by simpa using hne)))).trans hp5
                  · exact hw5.trans ((((set_turn 1 _).trans (set_turn 0 _)).trans (set_turn 1 _)).below hw5.size hn2)
                  · have := scan_at hw.ok (by omega) (by omega) hd; omega
              · gi_wp2
                refine bodyPost_ret (results_none rfl _ _ _) rfl ?_
                exact ⟨⟨_, rfl⟩, .inr ⟨_, hpre, hJx5⟩⟩
          | false =>
            rw [hcc] at cC
            have hdb : dblB p num dy (scan p (k + 1)) = false := by unfold dblB; rw [hcc]; rfl
            have hi : Hid (allI p = (pre ++ [Iss.mk vol num 0 dy 1 0]) ++ issF p f (volN p vol (num + 1)) (numN p (num + 1)) (scan p (k + 1))) := by show allI p = _; rw [show allI p = _ from hx, issF_one p f vol num dy k hv hdb]; simp
            have hpre : pre ++ [Iss.mk vol num 0 dy 1 0] <+: allI p := ⟨_, Eq.symm hi⟩
            refine wpIn_wide.2 (wp_region_quiet_below (show Try.prog.follows .mixedOrders = true from mixed) (by kernel_rfl) ?_)
            repeat (quiet_step (first | exact cM _ _ | exact cC _ _))
            refine wpQuiet_nil ?_
            intro _ hw'
            obtain ⟨⟨dq, osq⟩, hw''⟩ := hw'
            subst hw''
            have hb3 := below_regrown W2 dq osq
            generalize Go.Sort.grow (redrawn W2 dq) osq = W3 at hb3 ⊢
            have hg3 := hg2.mono hb3
            have hlB : B < W2.heap.size := (Array.getElem?_eq_some_iff.1 hx2).1
            have hlP : Bp < W2.heap.size := (Array.getElem?_eq_some_iff.1 (hp2.trans hBp)).1
            have hx3 := hx2.turn (hb3.block B hlB)
            have hp3 := (hb3.block Bp hlP).trans hp2
            have ht3 := ht2.trans (Turn.of_below hb3)
            have hper : p.per ≤ 366 := hw.ok.2.2.1.2
            clear k1 k2 k5 cM cC x0 x1 x2 x3 x4 x5 f0 f1 f2 f3 p0 p1 p2 p3 p4 p5
            obtain ⟨x0, x1, x2, x3, x4, x5⟩ := hx3.cells
            obtain ⟨p0, p1, p2, p3, p4, p5⟩ := cp hp3
            have a4 : ∀ w4, Below W3.heap.size W3 w4 → xB B w4 vol num 0 dy ∧ w4.heap[Bp]? = W.heap[Bp]? ∧ Turn B wr w4 ∧ B < w4.heap.size ∧ Bp < w4.heap.size := fun w4 hb4 =>
              ⟨hx3.turn (hb4.block B (Nat.lt_of_lt_of_le hlB hb3.size)), (hb4.block Bp (Nat.lt_of_lt_of_le hlP hb3.size)).trans hp3, ht3.trans (Turn.of_below hb4), Nat.lt_of_lt_of_le hlB (Nat.le_trans hb3.size hb4.size), Nat.lt_of_lt_of_le hlP (Nat.le_trans hb3.size hb4.size)⟩
            have hn1 := callsIn_wide (n := 1).2 (next_c hg3 (k := k + 1) ⟨by omega, by omega⟩)
            gi_wp2_with (refine ⟨trivial, ?_⟩; gi_at_call 81; refine hn1.mono ?_; clear hn1; rintro e w4 ⟨rfl, hb4⟩; obtain ⟨hx4, hp4, ht4, hl4, hm4⟩ := a4 w4 hb4; obtain ⟨y0, y1, y2, y3, y4, y5⟩ := hx4.cells; obtain ⟨fn, tmps, assign, body, hy, hR⟩ := hY pre (Iss.mk vol num 0 dy 1 0) w4 (hJ _ _ _ hJs ht4) hl4 hpre)
            refine hR.mono ?_
            rintro e W5 (⟨rfl, hJ5, hk5⟩ | ⟨rfl, hJx5⟩)
            · have hx5 := hx4.turn (hk5.same B (.inr rfl) hl4)
              have hp5 := (hk5.same Bp (.inl rfl) hm4).trans hp4
              have hw5 : Below w0.heap.size w0 W5 := (hbw.trans (ht4.below hbw.size hn2)).trans hk5.below
              clear x0 x1 x2 x3 x4 x5 p0 p1 p2 p3 p4 p5 y0 y1 y2 y3 y4 y5
              obtain ⟨x0, x1, x2, x3, x4, x5⟩ := hx5.cells
              obtain ⟨g0, g1, g2, g3⟩ := hx5.froz
              obtain ⟨p0, p1, p2, p3, p4, p5⟩ := cp hp5
              have m0 : max num 0 = num := by omega
              have m1 : wrap64 (num + 1) = num + 1 := by unfold wrap64; omega
              have m2 : wrap64 (vol + 1) = vol + 1 := by unfold wrap64; omega
              gi_wp2
              · have hc : p.per < num + 1 := by assumption
                have e1 : volN p vol (num + 1) = vol + 1 := if_pos hc
                have e2 : numN p (num + 1) = 1 := if_pos hc
                rw [e1, e2] at hi
                replace hi : allI p = _ := hi
                refine ⟨⟨pre ++ [Iss.mk vol num 0 dy 1 0], f, vol + 1, 1, 0, dy, _, scan p (k + 1), by first | rfl | rw [hso], by first | rfl | rw [hso], by first | rfl | rw [hso], by congr 1; omega, hi, hJ _ _ _ hJ5 (((set_turn 1 _).trans (set_turn 0 _)).trans (set_turn 1 _)), ((hx5.set1 _).set0 _).set1 _, ?_, ?_, by omega, by omega, by omega, fun d hd => ?_, rfl⟩, by simp [intOf]; omega⟩
                · exact ((set_other (by simpa using hne)).trans ((set_other (by simpa using hne)).trans (set_other (by simpa using hne)))).trans hp5
                · exact hw5.trans ((((set_turn 1 _).trans (set_turn 0 _)).trans (set_turn 1 _)).below hw5.size hn2)
                · have := scan_at hw.ok (by omega) (by omega) hd; omega
              · have hc : ¬ p.per < num + 1 := by have : num + 1 ≤ p.per := (by assumption); omega
                have e1 : volN p vol (num + 1) = vol := if_neg hc
                have e2 : numN p (num + 1) = num + 1 := if_neg hc
                rw [e1, e2] at hi
                replace hi : allI p = _ := hi
                refine ⟨⟨pre ++ [Iss.mk vol num 0 dy 1 0], f, vol, num + 1, 0, dy, _, scan p (k + 1), by first | rfl | rw [hso], by first | rfl | rw [hso], by first | rfl | rw [hso], by congr 1; omega, hi, hJ _ _ _ hJ5 (set_turn 1 _), hx5.set1 _, ?_, ?_, by omega, by omega, by omega, fun d hd => ?_, rfl⟩, by simp [intOf]; omega⟩
                · exact (set_other (by simpa using hne)).trans hp5
                · exact hw5.trans ((set_turn 1 _).below hw5.size hn2)
                · have := scan_at hw.ok (by omega) (by omega) hd; omega
            · gi_wp2
              refine bodyPost_ret (results_none rfl _ _ _) rfl ?_
              exact ⟨⟨_, rfl⟩, .inr ⟨_, hpre, hJx5⟩⟩
        · have hd1 : decide ((0 : Int) < (p.dbl.length : Int)) = false := decide_eq_false (by omega)
          have hdb : dblB p num dy (scan p (k + 1)) = false := by unfold dblB; rw [show p.dbl = [] from List.length_eq_zero_iff.1 (by omega)]; rfl
          have hi : Hid (allI p = (pre ++ [Iss.mk vol num 0 dy 1 0]) ++ issF p f (volN p vol (num + 1)) (numN p (num + 1)) (scan p (k + 1))) := by show allI p = _; rw [show allI p = _ from hx, issF_one p f vol num dy k hv hdb]; simp
          have hpre : pre ++ [Iss.mk vol num 0 dy 1 0] <+: allI p := ⟨_, Eq.symm hi⟩
          refine wpIn_wide.2 (wp_region_quiet_below (show Try.prog.follows .mixedOrders = true from mixed) (by kernel_rfl) ?_)
          repeat (quiet_step (first | exact cM _ _ | exact cC _ _))
          refine wpQuiet_nil ?_
          intro _ hw'
          obtain ⟨⟨dq, osq⟩, hw''⟩ := hw'
          subst hw''
          have hb3 := below_regrown W2 dq osq
          generalize Go.Sort.grow (redrawn W2 dq) osq = W3 at hb3 ⊢
          have hg3 := hg2.mono hb3
          have hlB : B < W2.heap.size := (Array.getElem?_eq_some_iff.1 hx2).1
          have hlP : Bp < W2.heap.size := (Array.getElem?_eq_some_iff.1 (hp2.trans hBp)).1
          have hx3 := hx2.turn (hb3.block B hlB)
          have hp3 := (hb3.block Bp hlP).trans hp2
          have ht3 := ht2.trans (Turn.of_below hb3)
          have hper : p.per ≤ 366 := hw.ok.2.2.1.2
          clear k1 k2 k5 cM cC x0 x1 x2 x3 x4 x5 f0 f1 f2 f3 p0 p1 p2 p3 p4 p5
          obtain ⟨x0, x1, x2, x3, x4, x5⟩ := hx3.cells
          obtain ⟨p0, p1, p2, p3, p4, p5⟩ := cp hp3
          have a4 : ∀ w4, Below W3.heap.size W3 w4 → xB B w4 vol num 0 dy ∧ w4.heap[Bp]? = W.heap[Bp]? ∧ Turn B wr w4 ∧ B < w4.heap.size ∧ Bp < w4.heap.size := fun w4 hb4 =>
            ⟨hx3.turn (hb4.block B (Nat.lt_of_lt_of_le hlB hb3.size)), (hb4.block Bp (Nat.lt_of_lt_of_le hlP hb3.size)).trans hp3, ht3.trans (Turn.of_below hb4), Nat.lt_of_lt_of_le hlB (Nat.le_trans hb3.size hb4.size), Nat.lt_of_lt_of_le hlP (Nat.le_trans hb3.size hb4.size)⟩
          have hn1 := callsIn_wide (n := 1).2 (next_c hg3 (k := k + 1) ⟨by omega, by omega⟩)
          gi_wp2_with (refine ⟨trivial, ?_⟩; gi_at_call 81; refine hn1.mono ?_; clear hn1; rintro e w4 ⟨rfl, hb4⟩; obtain ⟨hx4, hp4, ht4, hl4, hm4⟩ := a4 w4 hb4; obtain ⟨y0, y1, y2, y3, y4, y5⟩ := hx4.cells; obtain ⟨fn, tmps, assign, body, hy, hR⟩ := hY pre (Iss.mk vol num 0 dy 1 0) w4 (hJ _ _ _ hJs ht4) hl4 hpre)
          refine hR.mono ?_
          rintro e W5 (⟨rfl, hJ5, hk5⟩ | ⟨rfl, hJx5⟩)
          · have hx5 := hx4.turn (hk5.same B (.inr rfl) hl4)
            have hp5 := (hk5.same Bp (.inl rfl) hm4).trans hp4
            have hw5 : Below w0.heap.size w0 W5 := (hbw.trans (ht4.below hbw.size hn2)).trans hk5.below
            clear x0 x1 x2 x3 x4 x5 p0 p1 p2 p3 p4 p5 y0 y1 y2 y3 y4 y5
            obtain ⟨x0, x1, x2, x3, x4, x5⟩ := hx5.cells
            obtain ⟨g0, g1, g2, g3⟩ := hx5.froz
            obtain ⟨p0, p1, p2, p3, p4, p5⟩ := cp hp5
            have m0 : max num 0 = num := by omega
            have m1 : wrap64 (num + 1) = num + 1 := by unfold wrap64; omega
            have m2 : wrap64 (vol + 1) = vol + 1 := by unfold wrap64; omega
            gi_wp2
            · have hc : p.per < num + 1 := by assumption
              have e1 : volN p vol (num + 1) = vol + 1 := if_pos hc
              have e2 : numN p (num + 1) = 1 := if_pos hc
              rw [e1, e2] at hi
              replace hi : allI p = _ := hi
              refine ⟨⟨pre ++ [Iss.mk vol num 0 dy 1 0], f, vol + 1, 1, 0, dy, _, scan p (k + 1), by first | rfl | rw [hso], by first | rfl | rw [hso], by first | rfl | rw [hso], by congr 1; omega, hi, hJ _ _ _ hJ5 (((set_turn 1 _).trans (set_turn 0 _)).trans (set_turn 1 _)), ((hx5.set1 _).set0 _).set1 _, ?_, ?_, by omega, by omega, by omega, fun d hd => ?_, rfl⟩, by simp [intOf]; omega⟩
              · exact ((set_other (by simpa using hne)).trans ((set_other (by simpa using hne)).trans (set_other (by simpa using hne)))).trans hp5
              · exact hw5.trans ((((set_turn 1 _).trans (set_turn 0 _)).trans (set_turn 1 _)).below hw5.size hn2)
              · have := scan_at hw.ok (by omega) (by omega) hd; omega
            · have hc : ¬ p.per < num + 1 := by have : num + 1 ≤ p.per := (by assumption); omega
              have e1 : volN p vol (num + 1) = vol := if_neg hc
              have e2 : numN p (num + 1) = num + 1 := if_neg hc
              rw [e1, e2] at hi
              replace hi : allI p = _ := hi
              refine ⟨⟨pre ++ [Iss.mk vol num 0 dy 1 0], f, vol, num + 1, 0, dy, _, scan p (k + 1), by first | rfl | rw [hso], by first | rfl | rw [hso], by first | rfl | rw [hso], by congr 1; omega, hi, hJ _ _ _ hJ5 (set_turn 1 _), hx5.set1 _, ?_, ?_, by omega, by omega, by omega, fun d hd => ?_, rfl⟩, by simp [intOf]; omega⟩
              · exact (set_other (by simpa using hne)).trans hp5
              · exact hw5.trans ((set_turn 1 _).below hw5.size hn2)
              · have := scan_at hw.ok (by omega) (by omega) hd; omega
          · gi_wp2
            refine bodyPost_ret (results_none rfl _ _ _) rfl ?_
            exact ⟨⟨_, rfl⟩, .inr ⟨_, hpre, hJx5⟩⟩
      · clear hx
        gi_wp2
        go_end0
        exact ⟨⟨_, rfl⟩, .inl (fin (issF_vol _ _ _ _ _ (by omega)))⟩

end Go.Proofs.Ytceapemkefaicaa

set_option maxRecDepth 100000
set_option linter.unusedSimpArgs false
set_option linter.unusedVariables false
namespace Go.Proofs.Ytceapemkefaicaa
open Go Ab Pl
open Go.RowKit Go.Shelf
attribute [local go_sem] Oper.semAt_some
abbrev issV (x : Iss) : Array Value := #[.int .i64 x.vol, .int .i64 x.num, .int .i64 x.last, .int .i64 x.day, .int .i64 x.st, .int .i64 x.item]
theorem issues_in (pv : Array Value) (hs : pv.size = 6) (w : World) :
    CallsIn Fence.wide 2 Try.prog 65 #[.agg pv] w fun e w' => e = .returned (.func (.func 80) #[] #[.pointer (some ⟨w.heap.size, 0, none⟩)]) ∧ w' = w.alloc (.cells pv 24) := by
  refine callsIn_of_wp Try.func65 rfl trivial ?_ rfl
  simp only [Try.ntmps65, List.size_toArray, List.length_cons, List.length_nil, Nat.reduceAdd, Nat.reduceSub, Array.replicate_succ, Array.replicate_zero, List.push_toArray, List.append_toArray, List.nil_append, List.cons_append]
  gi_wp2
  go_ret
  exact ⟨rfl, rfl⟩
theorem seq_x {p : Pat} {s1 : Value} {a2 : Option Addr} {c2 : Nat} {S : Nat → Nat → Prop} {w0 w1 : World} (h : PW p s1 (.slice a2 p.dbl.length c2) S w0) (hb : Below w0.heap.size w0 w1) {Bp : Nat} (hB : w1.heap[Bp]? = some (.cells (pvP p s1 (.slice a2 p.dbl.length c2)) 24)) :
    SeqX Try.prog 80 #[.pointer (some ⟨Bp, 0, none⟩)] (fun x : Iss => #[.agg (issV x)]) w0.heap.size Bp (allI p) w1 := fun l J Jx W hW hs hJ hJx hY h0 =>
  iss1 Fence.wide rfl p s1 a2 c2 S w0 h l (w1.heap.size + 2) Bp J Jx hJ hJx hY W hs (hb.trans (hW.mono hb.size)) ((hW.block Bp (Array.getElem?_eq_some_iff.1 hB).1).trans hB) h0
theorem box1 {W : World} {b : Nat} {v : Value} {t : TypeId} (h : W.heap[b]? = some (.cells #[v] t)) : W.cell? ⟨b, 0, none⟩ = some v ∧ W.frozen? ⟨b, 0, none⟩ = false := by
  simp [World.cell?, World.frozen?, h]
theorem box1_set {W : World} {b : Nat} {v v' : Value} {t : TypeId} (h : W.heap[b]? = some (.cells #[v] t)) : (W.setCell ⟨b, 0, none⟩ v').heap[b]? = some (.cells #[v'] t) := by
  simp [World.setCell, Array.getElem?_modify, h]
theorem box6 {W : World} {b : Nat} {x : Iss} {t : TypeId} (h : W.heap[b]? = some (.cells (issV x) t)) :
    (W.cell? ⟨b, 0, none⟩ = some (.int .i64 x.vol) ∧ W.cell? ⟨b, 1, none⟩ = some (.int .i64 x.num) ∧ W.cell? ⟨b, 2, none⟩ = some (.int .i64 x.last) ∧ W.cell? ⟨b, 3, none⟩ = some (.int .i64 x.day) ∧ W.cell? ⟨b, 4, none⟩ = some (.int .i64 x.st) ∧ W.cell? ⟨b, 5, none⟩ = some (.int .i64 x.item)) ∧
    (W.frozen? ⟨b, 0, none⟩ = false ∧ W.frozen? ⟨b, 1, none⟩ = false ∧ W.frozen? ⟨b, 2, none⟩ = false ∧ W.frozen? ⟨b, 3, none⟩ = false ∧ W.frozen? ⟨b, 4, none⟩ = false ∧ W.frozen? ⟨b, 5, none⟩ = false) := by
  simp [World.cell?, World.frozen?, h]
/-- what lies in the blocks from b on -/
def Lie (b : Nat) (os : List Obj) (W : World) : Prop := ∀ i o, os[i]? = some o → W.heap[b + i]? = some o
theorem Lie.turn {b B : Nat} {os : List Obj} {W W' : World} (h : Lie b os W) (ht : Turn B W W') (hB : b + os.length ≤ B) : Lie b os W' := fun i o hi => by
  have hl : i < os.length := (List.getElem?_eq_some_iff.1 hi).1
  exact (ht.block _ (Array.getElem?_eq_some_iff.1 (h i o hi)).1 (by omega)).trans (h i o hi)
theorem Lie.put {b l : Nat} {os : List Obj} {W : World} {o' : Obj} (h : Lie b os W) (hl : b + os.length ≤ l) : Lie b os (W.putObj l o') := fun i o hi => by
  have := (List.getElem?_eq_some_iff.1 hi).1
  exact (World.putObj_heap_other (by omega)).trans (h i o hi)
theorem Lie.set {b i : Nat} {os : List Obj} {W : World} {v : Value} {j : Nat} {o' : Obj} (h : Lie b os W) (hi : i < os.length) (ho : (W.setCell ⟨b + i, j, none⟩ v).heap[b + i]? = some o') : Lie b (os.set i o') (W.setCell ⟨b + i, j, none⟩ v) := fun k o hk => by
  by_cases e : k = i
  · subst e
    rw [List.getElem?_set_self hi] at hk
    cases hk
    exact ho
  · rw [List.getElem?_set_ne (fun e' => e e'.symm)] at hk
    exact (set_other (by simpa using e)).trans (h k o hk)
theorem put_below {n l : Nat} {W : World} (hn : n ≤ W.heap.size) (hl : n ≤ l) (o : Obj) : Below n W (W.putObj l o) :=
  (Below.refl n W).grown (grownBy_putObj' W l o) hn (fun k e => by cases e; exact hl)
theorem keep_set {n₀ b i : Nat} {K : Nat → Prop} {W : World} {v : Value} (hn : n₀ ≤ b) (hk : ¬ K b) : Keep n₀ K W (W.setCell ⟨b, i, none⟩ v) :=
  ⟨(Below.refl n₀ W).setCell (p := ⟨b, i, none⟩) hn v, fun k h _ => set_other (fun e => hk (by have : k = b := e; exact this ▸ h))⟩
/-- an issue is written, field by field -/
abbrev set6 (W : World) (b : Nat) (y : Iss) : World :=
  (((((W.setCell ⟨b, 0, none⟩ (.int .i64 y.vol)).setCell ⟨b, 1, none⟩ (.int .i64 y.num)).setCell ⟨b, 2, none⟩ (.int .i64 y.last)).setCell ⟨b, 3, none⟩ (.int .i64 y.day)).setCell ⟨b, 4, none⟩ (.int .i64 y.st)).setCell ⟨b, 5, none⟩ (.int .i64 y.item)
theorem set6_at {W : World} {b : Nat} {x : Iss} {t : TypeId} (h : W.heap[b]? = some (.cells (issV x) t)) (y : Iss) : (set6 W b y).heap[b]? = some (.cells (issV y) t) := by
  simp [set6, World.setCell, Array.getElem?_modify, h]
theorem set6_other {W : World} {b k : Nat} (hk : k ≠ b) (y : Iss) : (set6 W b y).heap[k]? = W.heap[k]? := by
  unfold set6
  rw [set_other (by simpa using hk), set_other (by simpa using hk), set_other (by simpa using hk), set_other (by simpa using hk), set_other (by simpa using hk), set_other (by simpa using hk)]
theorem set6_keep {n₀ b : Nat} {K : Nat → Prop} {W : World} (hn : n₀ ≤ b) (hk : ¬ K b) (y : Iss) : Keep n₀ K W (set6 W b y) :=
  (((((keep_set hn hk).trans (keep_set hn hk)).trans (keep_set hn hk)).trans (keep_set hn hk)).trans (keep_set hn hk)).trans (keep_set hn hk)
def allocs (w : World) (os : List Obj) : World := os.foldl World.alloc w
theorem allocs_below : ∀ (os : List Obj) (w : World), Below w.heap.size w (allocs w os)
  | [], w => Below.refl _ _
  | o :: os, w => by
    have h := allocs_below os (w.alloc o)
    exact ((Below.refl _ w).alloc (Nat.le_refl _) o).trans (h.mono (by simp))
theorem allocs_size : ∀ (os : List Obj) (w : World), (allocs w os).heap.size = w.heap.size + os.length
  | [], w => rfl
  | o :: os, w => by
    show (allocs (w.alloc o) os).heap.size = _
    rw [allocs_size os (w.alloc o)]; simp; omega
theorem allocs_get : ∀ (os : List Obj) (w : World) (i : Nat) (o : Obj), os[i]? = some o → (allocs w os).heap[w.heap.size + i]? = some o
  | o' :: os, w, 0, o, h => by
    cases h
    have hb := allocs_below os (w.alloc o')
    show (allocs (w.alloc o') os).heap[w.heap.size]? = _
    rw [hb.block w.heap.size (by simp)]
    exact World.alloc_heap_new w o'
  | o' :: os, w, i + 1, o, h => by
    have := allocs_get os (w.alloc o') i o h
    rw [World.size_alloc] at this
    show (allocs (w.alloc o') os).heap[w.heap.size + (i + 1)]? = _
    rw [show w.heap.size + (i + 1) = w.heap.size + 1 + i by omega]
    exact this

end Go.Proofs.Ytceapemkefaicaa

set_option maxRecDepth 100000
set_option linter.unusedSimpArgs false
set_option linter.unusedVariables false
namespace Go.Proofs.Ytceapemkefaicaa
open Go Ab Pl
open Go.RowKit Go.Shelf
attribute [local go_sem] Oper.semAt_some
set_option maxHeartbeats 4000000 in
theorem Until_c {p : Pat} {s1 : Value} {a2 : Option Addr} {c2 : Nat} {S : Nat → Nat → Prop} {w : World} (h : PW p s1 (.slice a2 p.dbl.length c2) S w) (day : Int) :
    CallsIn Fence.wide 3 Try.prog 40 #[.agg (pvP p s1 (.slice a2 p.dbl.length c2)), .int .i64 day] w fun e W' => e = .returned (.int .i64 (untilR p day)) ∧ Below w.heap.size w W' := by
  refine callsIn_of_wp_marks Try.func40 rfl trivial ?_ rfl
  simp only [Try.ntmps40, List.size_toArray, List.length_cons, List.length_nil, Nat.reduceAdd, Nat.reduceSub, Array.replicate_succ, Array.replicate_zero, List.push_toArray, List.append_toArray, List.nil_append, List.cons_append]
  gi_wp2_with (refine ⟨trivial, ?_⟩; gi_at_call 65; refine (issues_in _ rfl _).mono ?_; rintro e w' ⟨rfl, rfl⟩)
  have ha := allocs_get [.cells (pvP p s1 (.slice a2 p.dbl.length c2)) 24, .cells #[.int .i64 day] 3, .cells #[.int .i64 0] 3, .cells (pvP p s1 (.slice a2 p.dbl.length c2)) 24] w
  have hb1 := allocs_below [.cells (pvP p s1 (.slice a2 p.dbl.length c2)) 24, .cells #[.int .i64 day] 3, .cells #[.int .i64 0] 3, .cells (pvP p s1 (.slice a2 p.dbl.length c2)) 24] w
  have hs1 := allocs_size [.cells (pvP p s1 (.slice a2 p.dbl.length c2)) 24, .cells #[.int .i64 day] 3, .cells #[.int .i64 0] 3, .cells (pvP p s1 (.slice a2 p.dbl.length c2)) 24] w
  change Code.wpIn _ _ _ _ _ _ (allocs w [.cells (pvP p s1 (.slice a2 p.dbl.length c2)) 24, .cells #[.int .i64 day] 3, .cells #[.int .i64 0] 3, .cells (pvP p s1 (.slice a2 p.dbl.length c2)) 24])
  generalize allocs w [.cells (pvP p s1 (.slice a2 p.dbl.length c2)) 24, .cells #[.int .i64 day] 3, .cells #[.int .i64 0] 3, .cells (pvP p s1 (.slice a2 p.dbl.length c2)) 24] = w1 at ha hb1 hs1 ⊢
  replace hs1 : w1.heap.size = w.heap.size + 4 := hs1
  have hp1 : w1.heap[w.heap.size + 3]? = some (.cells (pvP p s1 (.slice a2 p.dbl.length c2)) 24) := ha 3 _ rfl
  have hl1 : Lie (w.heap.size + 1) [.cells #[.int .i64 day] 3, .cells #[.int .i64 0] 3] w1 := fun i o hi => by
    have := (List.getElem?_eq_some_iff.1 hi).1
    rw [show w.heap.size + 1 + i = w.heap.size + (i + 1) by omega]
    exact ha (i + 1) o (by match i, hi with | 0, hi => exact hi | 1, hi => exact hi | i + 2, hi => exact absurd this (by simp))
  refine range_X (gf := 80) (lb := #[.pointer (some ⟨w.heap.size + 3, 0, none⟩)]) (encs := fun x : Iss => #[.agg (issV x)]) (xs := allI p) (n₀ := w.heap.size) (Bp := w.heap.size + 3) rfl (enters_of Try.func80 (by kernel_rfl) rfl) (fun _ => rfl) (by omega) (by omega) (seq_x h hb1 hp1)
    (fun pre W => Lie (w.heap.size + 1) [.cells #[.int .i64 day] 3, .cells #[.int .i64 (pre.length : Int)] 3] W ∧ (∀ x ∈ pre, x.day ≤ day) ∧ Below w.heap.size w W)
    (fun c pre W => c = .exit 0 ∧ (∃ (pre' : List Iss) (x : Iss), pre = pre' ++ [x] ∧ (∀ y ∈ pre', y.day ≤ day) ∧ day < x.day ∧ Lie (w.heap.size + 1) [.cells #[.int .i64 day] 3, .cells #[.int .i64 (pre'.length : Int)] 3] W) ∧ Below w.heap.size w W)
    (fun x a' W => ∃ bx, w1.heap.size + 2 < bx ∧ W.heap[bx]? = some (.cells (issV x) 59) ∧ a' = { tmps := #[.agg (pvP p s1 (.slice a2 p.dbl.length c2)), .int .i64 day, .pointer (some ⟨w.heap.size, 0, none⟩), .pointer (some ⟨w.heap.size + 1, 0, none⟩), .int .i64 0, .pointer (some ⟨w.heap.size + 1 + 1, 0, none⟩), .pointer (some ⟨bx, 0, none⟩),
      .agg (pvP p s1 (.slice a2 p.dbl.length c2)), .func (.func 80) #[] #[.pointer (some ⟨w.heap.size + 1 + 1 + 1, 0, none⟩)], .agg (issV x), undef, undef, undef, undef, undef, undef, undef], defers := [] })
    (fun s A A' hi ht => ⟨hi.1.turn ht (by simp; omega), hi.2.1, hi.2.2.trans (ht.below hi.2.2.size (by omega))⟩)
    (fun c s A A' ⟨hc, ⟨pre', x, e1, e2, e3, hl⟩, hb⟩ ht => ⟨hc, ⟨pre', x, e1, e2, e3, hl.turn ht (by simp; omega)⟩, hb.trans (ht.below hb.size (by omega))⟩)
    (fun s A o hi => ⟨hi.1.put (by simp; omega), hi.2.1, hi.2.2.trans (put_below hi.2.2.size (by omega) o)⟩)
    (fun c s A o ⟨hc, ⟨pre', x, e1, e2, e3, hl⟩, hb⟩ => ⟨hc, ⟨pre', x, e1, e2, e3, hl.put (by simp; omega)⟩, hb.trans (put_below hb.size (by omega) o)⟩)
    (fun x a' A o ⟨bx, h1, h2, h3⟩ => ⟨bx, h1, (World.putObj_heap_other (by omega)).trans h2, h3⟩)
    ⟨hl1, by simp, hb1⟩ ?assign ?body ?done ?stop
  case assign =>
    intro pre x W K hi hsz hK
    gi_wp2
    exact hK _ _ ⟨(Below.refl _ W).alloc hi.2.2.size _, fun k _ hk => Below.heap_alloc W _ k hk⟩ ⟨hi.1.turn (B := w1.heap.size + 2) (Turn.alloc _) (by simp; omega), hi.2.1, hi.2.2.trans ((Below.refl _ W).alloc hi.2.2.size _)⟩ ⟨W.heap.size, hsz, World.alloc_heap_new W _, rfl⟩
  case body =>
    rintro pre x a' W ⟨hl, hnn, hb⟩ ⟨bx, hbx, hcx, rfl⟩ hsz hpre
    have cn : W.cell? ⟨w.heap.size + 1, 0, none⟩ = some (.int .i64 day) := (box1 (hl 0 _ rfl)).1
    have ck : W.cell? ⟨w.heap.size + 1 + 1, 0, none⟩ = some (.int .i64 (pre.length : Int)) := (box1 (hl 1 _ rfl)).1
    have fk : W.frozen? ⟨w.heap.size + 1 + 1, 0, none⟩ = false := (box1 (hl 1 _ rfl)).2
    obtain ⟨⟨x0, x1, x2, x3, x4, x5⟩, _⟩ := box6 hcx
    have h5 : pre.length + 1 ≤ 5000 := by have := hpre.length_le; have := allI_len p; simp at *; omega
    have m1 : wrap64 ((pre.length : Int) + 1) = (pre.length : Int) + 1 := by unfold wrap64; omega
    by_cases hkn : day < x.day
    · gi_wp2
      exact ⟨Keep.refl _, rfl, ⟨pre, x, rfl, hnn, hkn, hl⟩, hb⟩
    · gi_wp2
      have hk : Keep w.heap.size (KX (w.heap.size + 4) (w.heap.size + 3)) W (W.setCell ⟨w.heap.size + 1 + 1, 0, none⟩ (.int .i64 ((pre.length : Int) + 1))) := keep_set (by omega) (by unfold KX; omega)
      refine ⟨hk, ?_, fun y hy => ?_, hb.trans hk.below⟩
      · have := hl.set (i := 1) (j := 0) (v := .int .i64 ((pre.length : Int) + 1)) (by simp) (box1_set (hl 1 _ rfl))
        simpa using this
      · rcases List.mem_append.1 hy with hy | hy
        · exact hnn y hy
        · simp at hy; subst hy; omega
  case done =>
    rintro W ⟨hl, hnn, hb⟩ hD
    have ck : W.cell? ⟨w.heap.size + 1 + 1, 0, none⟩ = some (.int .i64 ((allI p).length : Int)) := (box1 (hl 1 _ rfl)).1
    gi_wp2
    refine ⟨by simp, .inl ⟨_, _, rfl, run_takeDeferred hD, ?_⟩⟩
    exact ⟨_, results_tmp rfl _ _ _, by rw [until_all hnn]; rfl, hb.trans (put_below hb.size (by omega) _)⟩
  case stop =>
    rintro c pre W hpre ⟨rfl, ⟨pre', x, rfl, e2, e3, hl⟩, hb⟩ hD
    have ck : W.cell? ⟨w.heap.size + 1 + 1, 0, none⟩ = some (.int .i64 (pre'.length : Int)) := (box1 (hl 1 _ rfl)).1
    gi_wp2
    refine ⟨by simp, .inl ⟨_, _, rfl, run_takeDeferred hD, ?_⟩⟩
    exact ⟨_, results_tmp rfl _ _ _, by rw [until_cut hpre e2 e3]; rfl, hb.trans (put_below hb.size (by omega) _)⟩

end Go.Proofs.Ytceapemkefaicaa

set_option maxRecDepth 100000
set_option linter.unusedSimpArgs false
set_option linter.unusedVariables false
namespace Go.Proofs.Ytceapemkefaicaa
open Go Ab Pl
open Go.RowKit
theorem rep_iss {w : World} {S : Nat → Nat → Prop} {x : Iss} (h : IssSm x) : Rep w S (encIss x) (.agg (issV x)) := by
  unfold IssSm at h
  rw [encIss_eq]
  refine .agg _ _ rfl (by simp [D.flat]) fun i c hc => ?_
  match i, hc with
  | 0, hc => simp at hc; subst hc; exact .int _ _ (by simp; omega)
  | 1, hc => simp at hc; subst hc; exact .int _ _ (by simp; omega)
  | 2, hc => simp at hc; subst hc; exact .int _ _ (by simp; omega)
  | 3, hc => simp at hc; subst hc; exact .int _ _ (by simp; omega)
  | 4, hc => simp at hc; subst hc; exact .int _ _ (by simp; omega)
  | 5, hc => simp at hc; subst hc; exact .int _ _ (by simp; omega)
  | i + 6, hc => simp at hc
theorem pat_open {w : World} {S : Nat → Nat → Prop} {p : Pat} {v : Value} (h : Rep w S (encPat p) v) : ∃ s1 a2 c2, v = .agg (pvP p s1 (.slice a2 p.dbl.length c2)) := by
  rw [encPat_eq] at h
  cases h with
  | agg cs vs hl hf h =>
    obtain ⟨l⟩ := vs
    match l, hl with
    | [a, b, c, d, e, f], _ =>
      have h0 := h 0 _ rfl; have h1 := h 1 _ rfl; have h2 := h 2 _ rfl; have h3 := h 3 _ rfl; have h5 := h 5 _ rfl
      simp at h0 h1 h2 h3 h5
      obtain ⟨a2, c2, rfl⟩ := rep_len h5
      cases h0; cases h1; cases h2; cases h3
      exact ⟨e, a2, c2, rfl⟩
theorem pattern_Until (p : Pat) (day : Int) (hp : PatOk p) : ACalls E.P 40 [encPat p, .int .i64 day] (.d (.int .i64 (untilR p day))) := by
  refine ⟨⟨_, Try.func40, by kernel_rfl, rfl⟩, fun w S vs hG hS hs hr => ?_⟩
  obtain ⟨l⟩ := vs
  match l, hs with
  | [v0, v1], _ =>
    have r0 := hr 0 _ rfl; have r1 := hr 1 _ rfl
    simp at r0 r1
    obtain ⟨s1, a2, c2, rfl⟩ := pat_open r0
    cases r1 with
    | int _ _ h1 =>
      refine (callsIn_wide.1 (Until_c ⟨hp, hG, hS, r0⟩ day)).mono ?_
      rintro e w' ⟨rfl, hb⟩
      have := until_rng p day
      exact ⟨_, rfl, hb, .int _ _ (by simp; omega)⟩

end Go.Proofs.Ytceapemkefaicaa

set_option maxRecDepth 100000
set_option linter.unusedSimpArgs false
set_option linter.unusedVariables false
namespace Go.Proofs.Ytceapemkefaicaa
open Go Ab Pl
open Go.RowKit Go.Shelf
attribute [local go_sem] Oper.semAt_some
theorem info30 : (Try.prog.info? 59).map (fun i => (i.zero, i.size, i.bytes)) = some (some (.agg #[.int .i64 0, .int .i64 0, .int .i64 0, .int .i64 0, .int .i64 0, .int .i64 0]), 6, 48) := by kernel_rfl
def flatI (l : List Iss) : List Value := l.flatMap fun x => (issV x).toList
theorem flatI_snoc (l : List Iss) (x : Iss) : flatI (l ++ [x]) = flatI l ++ (issV x).toList := by simp [flatI]
theorem own_heap {W W' : World} {b e sz n : Nat} {v : Value} {xs : List Value} (h : W.ownsRow b e sz v n xs) (hh : ∀ g, b ≤ g → g < W.heap.size → W'.heap[g]? = W.heap[g]?) : W'.ownsRow b e sz v n xs := by
  obtain ⟨h0, h1 | ⟨g, cap, cur, e1, e2, e3, e4⟩⟩ := h
  · exact ⟨h0, .inl h1⟩
  · exact ⟨h0, .inr ⟨g, cap, cur, e1, e2, (hh g e2 (Array.getElem?_eq_some_iff.1 e3).1).trans e3, e4⟩⟩
theorem own_base {W : World} {b b' e sz n : Nat} {v : Value} {xs : List Value} (h : W.ownsRow b e sz v n xs) (hb : b' ≤ b) : W.ownsRow b' e sz v n xs := by
  obtain ⟨h0, h1 | ⟨g, cap, cur, e1, e2, e3, e4⟩⟩ := h
  · exact ⟨h0, .inl h1⟩
  · exact ⟨h0, .inr ⟨g, cap, cur, e1, Nat.le_trans hb e2, e3, e4⟩⟩
theorem own_block {W : World} {b e sz n : Nat} {v : Value} {xs : List Value} (h : W.ownsRow b e sz v n xs) : ∀ g, v.ownBlock = some g → b ≤ g := by
  intro g hg
  obtain ⟨h0, ⟨rfl, _⟩ | ⟨g', cap, cur, rfl, e2, e3, e4⟩⟩ := h
  · cases hg
  · cases hg; exact e2
theorem cell_of {W : World} {b j : Nat} {arr : Array Value} {t : TypeId} {u : Value} (h : W.heap[b]? = some (.cells arr t)) (hj : arr[j]? = some u) : W.cell? ⟨b, j, none⟩ = some u := by
  simp [World.cell?, h, hj]
theorem cells_new (W : World) (x : Iss) (t : TypeId) : ∀ j u, (issV x).toList[j]? = some u → (W.alloc (.cells (issV x) t)).cell? ((⟨W.heap.size, 0, none⟩ : Addr).add j) = some u := fun j u h => by
  have hj : (issV x)[j]? = some u := by rw [← Array.getElem?_toList]; exact h
  have := cell_of (World.alloc_heap_new W (.cells (issV x) t)) hj
  by_cases h0 : j = 0
  · subst h0; exact this
  · have e : ((⟨W.heap.size, 0, none⟩ : Addr).add j) = ⟨W.heap.size, j, none⟩ := by simp [Addr.add, h0]
    rw [e]; exact this
theorem wr_id {x : Int} (h : -9223372036854775808 ≤ x ∧ x ≤ 9223372036854775807) : wrap64 x = x := by unfold wrap64; omega
theorem wr_one {k : Nat} (h : k + 1 ≤ 5000) : wrap64 ((k : Int) + 1) = (k : Int) + 1 := by unfold wrap64; omega
theorem wr_nat {k : Nat} (h : k + 1 ≤ 5000) : wrap64 (k : Int) = (k : Int) := by unfold wrap64; omega
theorem wr_sub {k : Nat} {f : Int} (h : k + 1 ≤ 5000) (h0 : 0 ≤ f) (h1 : f ≤ 9223372036854775807) : wrap64 ((k : Int) - f) = (k : Int) - f := by unfold wrap64; omega
theorem grow_keep {W W' : World} {v : Value} {tmp : Obj} {base : Nat} (hg : (W.alloc tmp).grownBy W' v.ownBlock) (ho : ∀ g, v.ownBlock = some g → base ≤ g) (k : Nat) (hk : k < W.heap.size) (hb : k < base) : W'.heap[k]? = W.heap[k]? :=
  (hg.block k (by simp; omega) (fun e => by have := ho k e.symm; omega)).trans (Below.heap_alloc W tmp k hk)
theorem Lie.eq {b : Nat} {os : List Obj} {W W' : World} (h : Lie b os W) (he : ∀ k, b ≤ k → k < b + os.length → W'.heap[k]? = W.heap[k]?) : Lie b os W' := fun i o hi => by
  have hl : i < os.length := (List.getElem?_eq_some_iff.1 hi).1
  exact (he _ (by omega) (by omega)).trans (h i o hi)
set_option maxHeartbeats 4000000 in
theorem List_neg {p : Pat} {s1 : Value} {a2 : Option Addr} {c2 : Nat} {S : Nat → Nat → Prop} {w : World} (h : PW p s1 (.slice a2 p.dbl.length c2) S w) (fr n : Int) (F0 : Nat) (hn1 : 1 ≤ n) (hr : n ≤ 9223372036854775807 ∧ -9223372036854775808 ≤ fr ∧ fr ≤ 9223372036854775807)
    (hf0 : fr < 0) (hf : (F0 : Int) = 0) :
    CallsIn Fence.wide 3 Try.prog 42 #[.agg (pvP p s1 (.slice a2 p.dbl.length c2)), .int .i64 fr, .int .i64 n] w fun e W' => ∃ v, e = .returned v ∧ W'.ownsRow w.heap.size 59 6 v (((allI p).drop F0).take (n + fr).toNat).length (flatI (((allI p).drop F0).take (n + fr).toNat)) ∧ Below w.heap.size w W' := by
  refine callsIn_of_wp_marks Try.func42 rfl trivial ?_ rfl
  simp only [Try.ntmps42, List.size_toArray, List.length_cons, List.length_nil, Nat.reduceAdd, Nat.reduceSub, Array.replicate_succ, Array.replicate_zero, List.push_toArray, List.append_toArray, List.nil_append, List.cons_append]
  obtain ⟨i0, hi, hz0, hz1, hz2⟩ := info_parts info30
  have hn : ¬ n < 1 := by omega
  have m0 : wrap64 (n + fr) = n + fr := wr_id ⟨by omega, by omega⟩
  gi_wp2_with (refine ⟨trivial, ?_⟩; gi_at_call 65; refine (issues_in _ rfl _).mono ?_; rintro e w' ⟨rfl, rfl⟩)
  have ha := allocs_get [.cells (pvP p s1 (.slice a2 p.dbl.length c2)) 24, .cells #[Value.int .i64 (0)] 3, .cells #[Value.int .i64 (n + fr)] 3, .cells #[Value.slice none 0 0] 25, .cells #[Value.int .i64 0] 3, .cells (pvP p s1 (.slice a2 p.dbl.length c2)) 24] w
  have hb1 := allocs_below [.cells (pvP p s1 (.slice a2 p.dbl.length c2)) 24, .cells #[Value.int .i64 (0)] 3, .cells #[Value.int .i64 (n + fr)] 3, .cells #[Value.slice none 0 0] 25, .cells #[Value.int .i64 0] 3, .cells (pvP p s1 (.slice a2 p.dbl.length c2)) 24] w
  have hs1 := allocs_size [.cells (pvP p s1 (.slice a2 p.dbl.length c2)) 24, .cells #[Value.int .i64 (0)] 3, .cells #[Value.int .i64 (n + fr)] 3, .cells #[Value.slice none 0 0] 25, .cells #[Value.int .i64 0] 3, .cells (pvP p s1 (.slice a2 p.dbl.length c2)) 24] w
  change Code.wpIn _ _ _ _ _ _ (allocs w [.cells (pvP p s1 (.slice a2 p.dbl.length c2)) 24, .cells #[Value.int .i64 (0)] 3, .cells #[Value.int .i64 (n + fr)] 3, .cells #[Value.slice none 0 0] 25, .cells #[Value.int .i64 0] 3, .cells (pvP p s1 (.slice a2 p.dbl.length c2)) 24])
  generalize allocs w [.cells (pvP p s1 (.slice a2 p.dbl.length c2)) 24, .cells #[Value.int .i64 (0)] 3, .cells #[Value.int .i64 (n + fr)] 3, .cells #[Value.slice none 0 0] 25, .cells #[Value.int .i64 0] 3, .cells (pvP p s1 (.slice a2 p.dbl.length c2)) 24] = w1 at ha hb1 hs1 ⊢
  replace hs1 : w1.heap.size = w.heap.size + 6 := hs1
  have hp1 : w1.heap[w.heap.size + 5]? = some (.cells (pvP p s1 (.slice a2 p.dbl.length c2)) 24) := ha 5 _ rfl
  have hl1 : Lie (w.heap.size + 1) [.cells #[Value.int .i64 (0)] 3, .cells #[Value.int .i64 (n + fr)] 3, .cells #[.slice none 0 0] 25, .cells #[.int .i64 0] 3] w1 := fun i o hi => by
    have := (List.getElem?_eq_some_iff.1 hi).1
    rw [show w.heap.size + 1 + i = w.heap.size + (i + 1) by omega]
    exact ha (i + 1) o (by match i, hi with | 0, hi => exact hi | 1, hi => exact hi | 2, hi => exact hi | 3, hi => exact hi | i + 4, hi => exact absurd this (by simp))
  refine range_X (gf := 80) (lb := #[.pointer (some ⟨w.heap.size + 5, 0, none⟩)]) (encs := fun x : Iss => #[.agg (issV x)]) (xs := allI p) (n₀ := w.heap.size) (Bp := w.heap.size + 5) rfl (enters_of Try.func80 (by kernel_rfl) rfl) (fun _ => rfl) (by omega) (by omega) (seq_x h hb1 hp1)
    (fun pre W => (∃ v, Lie (w.heap.size + 1) [.cells #[Value.int .i64 (0)] 3, .cells #[Value.int .i64 (n + fr)] 3, .cells #[v] 25, .cells #[.int .i64 (pre.length : Int)] 3] W ∧ W.ownsRow (w.heap.size + 9) 59 6 v (pre.length - F0) (flatI (pre.drop F0))) ∧ (F0 < pre.length → (pre.length : Int) - F0 ≤ n + fr) ∧ Below w.heap.size w W)
    (fun c pre W => c = .exit 0 ∧ (∃ (pre' : List Iss) (x : Iss) (v : Value), pre = pre' ++ [x] ∧ Lie (w.heap.size + 1) [.cells #[Value.int .i64 (0)] 3, .cells #[Value.int .i64 (n + fr)] 3, .cells #[v] 25, .cells #[.int .i64 (pre'.length : Int)] 3] W ∧ W.ownsRow (w.heap.size + 9) 59 6 v (pre'.length - F0) (flatI (pre'.drop F0)) ∧ (F0 < pre'.length → (pre'.length : Int) - F0 ≤ n + fr) ∧ F0 ≤ pre'.length ∧ n + fr ≤ (pre'.length : Int) - F0) ∧ Below w.heap.size w W)
    (fun x a' W => ∃ bx, w1.heap.size + 2 < bx ∧ W.heap[bx]? = some (.cells (issV x) 59) ∧ a' = { tmps := #[.agg (pvP p s1 (.slice a2 p.dbl.length c2)), .int .i64 fr, .int .i64 n, .pointer (some ⟨w.heap.size, 0, none⟩), undef, undef, .slice none 0 0, .pointer (some ⟨w.heap.size + 1, 0, none⟩), .pointer (some ⟨w.heap.size + 1 + 1, 0, none⟩), .pointer (some ⟨w.heap.size + 1 + 1 + 1, 0, none⟩), .pointer (some ⟨w.heap.size + 1 + 1 + 1 + 1, 0, none⟩), .pointer (some ⟨bx, 0, none⟩), .int .i64 n, .bool false, .int .i64 fr, .int .i64 n, .int .i64 fr, .bool true, .int .i64 n, .int .i64 fr, .int .i64 (n + fr), .agg (pvP p s1 (.slice a2 p.dbl.length c2)), .func (.func 80) #[] #[.pointer (some ⟨w.heap.size + 1 + 1 + 1 + 1 + 1, 0, none⟩)], .agg (issV x), undef, undef, undef, undef, undef, undef, undef, undef, undef, undef, undef, undef, undef, undef, undef, undef, undef, undef, undef, undef], defers := [] })
    (fun s A A' ⟨⟨v, hl, ho⟩, hi, hb⟩ ht => ⟨⟨v, hl.turn ht (by simp; omega), own_heap ho fun g hg hl' => ht.block g hl' (by omega)⟩, hi, hb.trans (ht.below hb.size (by omega))⟩)
    (fun c s A A' ⟨hc, ⟨pre', x, v, e1, hl, ho, e2⟩, hb⟩ ht => ⟨hc, ⟨pre', x, v, e1, hl.turn ht (by simp; omega), own_heap ho fun g hg hl' => ht.block g hl' (by omega), e2⟩, hb.trans (ht.below hb.size (by omega))⟩)
    (fun s A o ⟨⟨v, hl, ho⟩, hi, hb⟩ => ⟨⟨v, hl.put (by simp; omega), own_heap ho fun g hg hl' => World.putObj_heap_other (by omega)⟩, hi, hb.trans (put_below hb.size (by omega) o)⟩)
    (fun c s A o ⟨hc, ⟨pre', x, v, e1, hl, ho, e2⟩, hb⟩ => ⟨hc, ⟨pre', x, v, e1, hl.put (by simp; omega), own_heap ho fun g hg hl' => World.putObj_heap_other (by omega), e2⟩, hb.trans (put_below hb.size (by omega) o)⟩)
    (fun x a' A o ⟨bx, h1, h2, h3⟩ => ⟨bx, h1, (World.putObj_heap_other (by omega)).trans h2, h3⟩)
    ⟨⟨_, hl1, by simpa [flatI] using World.ownsRow_nil w1 (w.heap.size + 9) 59 6⟩, by simp, hb1⟩ ?assign ?body ?done ?stop
  case assign =>
    rintro pre x W K ⟨⟨v, hl, ho⟩, hi', hb⟩ hsz hK
    gi_wp2
    exact hK _ _ ⟨(Below.refl _ W).alloc hb.size _, fun k _ hk => Below.heap_alloc W _ k hk⟩ ⟨⟨v, hl.turn (B := w1.heap.size + 2) (Turn.alloc _) (by simp; omega), own_heap ho fun g hg hl' => Below.heap_alloc W _ g hl'⟩, hi', hb.trans ((Below.refl _ W).alloc hb.size _)⟩ ⟨W.heap.size, hsz, World.alloc_heap_new W _, rfl⟩
  case body =>
    rintro pre x a' W ⟨⟨v, hl, ho⟩, hnn, hb⟩ ⟨bx, hbx, hcx, rfl⟩ hsz hpre
    replace hnn : Hid (F0 < pre.length → (pre.length : Int) - F0 ≤ n + fr) := hnn
    clear ha hb1 hl1 m0
    have cf : W.cell? ⟨w.heap.size + 1, 0, none⟩ = some (.int .i64 (0)) := (box1 (hl 0 _ rfl)).1
    have cc : W.cell? ⟨w.heap.size + 1 + 1, 0, none⟩ = some (.int .i64 (n + fr)) := (box1 (hl 1 _ rfl)).1
    have co : W.cell? ⟨w.heap.size + 1 + 1 + 1, 0, none⟩ = some v := (box1 (hl 2 _ rfl)).1
    have ck : W.cell? ⟨w.heap.size + 1 + 1 + 1 + 1, 0, none⟩ = some (.int .i64 (pre.length : Int)) := (box1 (hl 3 _ rfl)).1
    have fk : W.frozen? ⟨w.heap.size + 1 + 1 + 1 + 1, 0, none⟩ = false := (box1 (hl 3 _ rfl)).2
    have fo : W.frozen? ⟨w.heap.size + 1 + 1 + 1, 0, none⟩ = false := (box1 (hl 2 _ rfl)).2
    obtain ⟨⟨x0, x1, x2, x3, x4, x5⟩, _⟩ := box6 hcx
    have h5 : pre.length + 1 ≤ 5000 := by have h1 := hpre.length_le; have h2 := allI_len p; rw [List.length_append, List.length_singleton] at h1; omega
    have hlE : ∀ V : World, (∀ k, k < W.heap.size → k < w.heap.size + 9 → V.heap[k]? = W.heap[k]?) → Lie (w.heap.size + 1) [.cells #[Value.int .i64 (0)] 3, .cells #[Value.int .i64 (n + fr)] 3, .cells #[v] 25, .cells #[.int .i64 (pre.length : Int)] 3] V := fun V hV => hl.eq (fun k h1 h2 => hV k (by simp at h2; omega) (by simp at h2; omega))
    have hb3 : w.heap.size + 9 ≤ (W.alloc (.cells (issV x) 59)).heap.size := by simp; omega
    by_cases g1 : 0 ≤ (pre.length : Int)
    · by_cases g2 : n + fr ≤ (pre.length : Int)
      · have z1 : F0 ≤ pre.length := by omega
        have z2 : n + fr ≤ (pre.length : Int) - F0 := by omega
        have m1 : wrap64 ((pre.length : Int) + 1) = (pre.length : Int) + 1 := wr_one h5
        have m2 : wrap64 ((pre.length : Int)) = (pre.length : Int) := wr_nat h5
        replace z1 : Hid _ := z1
        replace z2 : Hid _ := z2
        replace hlE : Hid _ := hlE
        replace hf : Hid _ := hf
        replace hf0 : Hid _ := hf0
        replace hn1 : Hid _ := hn1
        replace hr : Hid _ := hr
        replace hn : Hid _ := hn
        replace hb3 : Hid _ := hb3
        clear h5 hpre
        gi_wp2
        exact ⟨Keep.refl _, rfl, ⟨pre, x, v, rfl, hl, ho, hnn, z1, z2⟩, hb⟩
      · have hm1 : pre.length - F0 + 1 ≤ maxLen := by simp only [maxLen]; omega
        have hm2 : (pre.length - F0 + 1) * 48 ≤ 140737488355328 := by omega
        have hob := own_block ho
        replace hm1 : Hid _ := hm1
        replace hm2 : Hid _ := hm2
        replace hb3 : Hid _ := hb3
        have z3 : (F0 < (pre ++ [x]).length → ((pre ++ [x]).length : Int) - F0 ≤ n + fr) := fun _ => by rw [List.length_append, List.length_singleton]; omega
        have m1 : wrap64 ((pre.length : Int) + 1) = (pre.length : Int) + 1 := wr_one h5
        have m2 : wrap64 ((pre.length : Int)) = (pre.length : Int) := wr_nat h5
        replace z3 : Hid _ := z3
        replace hob : Hid _ := hob
        replace hlE : Hid _ := hlE
        replace g1 : Hid _ := g1
        replace hf : Hid _ := hf
        replace hf0 : Hid _ := hf0
        replace hn1 : Hid _ := hn1
        replace hr : Hid _ := hr
        replace hn : Hid _ := hn
        replace hs1 : Hid _ := hs1
        clear h5 hpre
        gi_wp2_with (gi_at_builtin; refine wpListIn_append_own _ rfl _ _ 25 rfl (w.heap.size + 9) 59 i0 (.agg #[.int .i64 0, .int .i64 0, .int .i64 0, .int .i64 0, .int .i64 0, .int .i64 0]) 6 48 Try.underlying25 hi hz0 hz1 hz2 rfl (by decide) _ _ _ rfl (ho.alloc _) ⟨W.heap.size, 0, none⟩ 1 1 (issV x).toList rfl rfl (cells_new _ _ _) (by simp [Value.oneCell']) hm1 hm2 hb3 ?_; intro v' V hown' hgrow _; obtain ⟨g', cap', rfl⟩ := ownsRow_succ hown'; have hgk := grow_keep hgrow (show ∀ g, v.ownBlock = some g → w.heap.size + 9 ≤ g from hob); have hlV := (show ∀ V : World, _ → _ from hlE) V hgk; have coV := (box1 (b := w.heap.size + 1 + 1 + 1) (hlV 2 _ rfl)).1; have foV := (box1 (b := w.heap.size + 1 + 1 + 1) (hlV 2 _ rfl)).2; have ckV := (box1 (b := w.heap.size + 1 + 1 + 1 + 1) (hlV 3 _ rfl)).1; have fkV := (box1 (b := w.heap.size + 1 + 1 + 1 + 1) (hlV 3 _ rfl)).2)
        clear m1 m2
        unfold Hid at z3 hob hlE g1 hf hf0 hn1 hr hn hs1
        have hkV : Keep w.heap.size (KX (w.heap.size + 6) (w.heap.size + 5)) W V := ⟨((Below.refl w.heap.size W).alloc hb.size _).grown hgrow (by simp; have := hb.size; omega) (fun k e => by have := hob k e; omega), fun k hk hlt => hgk k hlt (by unfold KX at hk; omega)⟩
        have hk : Keep w.heap.size (KX (w.heap.size + 6) (w.heap.size + 5)) W ((V.setCell ⟨w.heap.size + 1 + 1 + 1, 0, none⟩ (.slice (some ⟨g', 0, none⟩) (pre.length - F0 + 1) cap')).setCell ⟨w.heap.size + 1 + 1 + 1 + 1, 0, none⟩ (.int .i64 ((pre.length : Int) + 1))) :=
          (hkV.trans (keep_set (by omega) (by unfold KX; omega))).trans (keep_set (by omega) (by unfold KX; omega))
        have hdr : (pre ++ [x]).drop F0 = pre.drop F0 ++ [x] := List.drop_append_of_le_length (by omega)
        have l2 := hlV.set (i := 2) (j := 0) (v := .slice (some ⟨g', 0, none⟩) (pre.length - F0 + 1) cap') (by simp) (box1_set (hlV 2 _ rfl))
        have l3 := l2.set (i := 3) (j := 0) (v := .int .i64 ((pre.length : Int) + 1)) (by simp) (box1_set (l2 3 _ rfl))
        refine ⟨by rw [hs1]; exact hk, ⟨_, by simpa using l3, ?_⟩, z3, hb.trans hk.below⟩
        rw [hdr, flatI_snoc, show (pre ++ [x]).length - F0 = pre.length - F0 + 1 by simp; omega]
        exact own_heap hown' fun g hg _ => (set_other (by simp; omega)).trans (set_other (by simp; omega))
    · exact absurd (Int.natCast_nonneg _) g1
  case done =>
    rintro W ⟨⟨v, hl, ho⟩, hnn, hb⟩ hD
    have co : W.cell? ⟨w.heap.size + 1 + 1 + 1, 0, none⟩ = some v := (box1 (hl 2 _ rfl)).1
    gi_wp2
    refine ⟨by simp, .inl ⟨_, _, rfl, run_takeDeferred hD, ?_⟩⟩
    refine ⟨_, results_tmp rfl _ _ _, v, rfl, ?_, hb.trans (put_below hb.size (by omega) _)⟩
    rw [list_all (C := n + fr) hnn, List.length_drop]
    exact own_base (own_heap ho fun g hg hl' => World.putObj_heap_other (by omega)) (by omega)
  case stop =>
    rintro c pre W hpre ⟨rfl, ⟨pre', x, v, rfl, hl, ho, e2, e3, e4⟩, hb⟩ hD
    have co : W.cell? ⟨w.heap.size + 1 + 1 + 1, 0, none⟩ = some v := (box1 (hl 2 _ rfl)).1
    gi_wp2
    refine ⟨by simp, .inl ⟨_, _, rfl, run_takeDeferred hD, ?_⟩⟩
    refine ⟨_, results_tmp rfl _ _ _, v, rfl, ?_, hb.trans (put_below hb.size (by omega) _)⟩
    rw [list_cut hpre e2 e3 e4, List.length_drop]
    exact own_base (own_heap ho fun g hg hl' => World.putObj_heap_other (by omega)) (by omega)
set_option maxHeartbeats 4000000 in
theorem List_pos {p : Pat} {s1 : Value} {a2 : Option Addr} {c2 : Nat} {S : Nat → Nat → Prop} {w : World} (h : PW p s1 (.slice a2 p.dbl.length c2) S w) (fr n : Int) (F0 : Nat) (hn1 : 1 ≤ n) (hr : n ≤ 9223372036854775807 ∧ -9223372036854775808 ≤ fr ∧ fr ≤ 9223372036854775807)
    (hf0 : ¬ fr < 0) (hf : (F0 : Int) = fr) :
    CallsIn Fence.wide 3 Try.prog 42 #[.agg (pvP p s1 (.slice a2 p.dbl.length c2)), .int .i64 fr, .int .i64 n] w fun e W' => ∃ v, e = .returned v ∧ W'.ownsRow w.heap.size 59 6 v (((allI p).drop F0).take (n).toNat).length (flatI (((allI p).drop F0).take (n).toNat)) ∧ Below w.heap.size w W' := by
  refine callsIn_of_wp_marks Try.func42 rfl trivial ?_ rfl
  simp only [Try.ntmps42, List.size_toArray, List.length_cons, List.length_nil, Nat.reduceAdd, Nat.reduceSub, Array.replicate_succ, Array.replicate_zero, List.push_toArray, List.append_toArray, List.nil_append, List.cons_append]
  obtain ⟨i0, hi, hz0, hz1, hz2⟩ := info_parts info30
  have hn : ¬ n < 1 := by omega
  gi_wp2_with (refine ⟨trivial, ?_⟩; gi_at_call 65; refine (issues_in _ rfl _).mono ?_; rintro e w' ⟨rfl, rfl⟩)
  have ha := allocs_get [.cells (pvP p s1 (.slice a2 p.dbl.length c2)) 24, .cells #[Value.int .i64 (fr)] 3, .cells #[Value.int .i64 (n)] 3, .cells #[Value.slice none 0 0] 25, .cells #[Value.int .i64 0] 3, .cells (pvP p s1 (.slice a2 p.dbl.length c2)) 24] w
  have hb1 := allocs_below [.cells (pvP p s1 (.slice a2 p.dbl.length c2)) 24, .cells #[Value.int .i64 (fr)] 3, .cells #[Value.int .i64 (n)] 3, .cells #[Value.slice none 0 0] 25, .cells #[Value.int .i64 0] 3, .cells (pvP p s1 (.slice a2 p.dbl.length c2)) 24] w
  have hs1 := allocs_size [.cells (pvP p s1 (.slice a2 p.dbl.length c2)) 24, .cells #[Value.int .i64 (fr)] 3, .cells #[Value.int .i64 (n)] 3, .cells #[Value.slice none 0 0] 25, .cells #[Value.int .i64 0] 3, .cells (pvP p s1 (.slice a2 p.dbl.length c2)) 24] w
  change Code.wpIn _ _ _ _ _ _ (allocs w [.cells (pvP p s1 (.slice a2 p.dbl.length c2)) 24, .cells #[Value.int .i64 (fr)] 3, .cells #[Value.int .i64 (n)] 3, .cells #[Value.slice none 0 0] 25, .cells #[Value.int .i64 0] 3, .cells (pvP p s1 (.slice a2 p.dbl.length c2)) 24])
  generalize allocs w [.cells (pvP p s1 (.slice a2 p.dbl.length c2)) 24, .cells #[Value.int .i64 (fr)] 3, .cells #[Value.int .i64 (n)] 3, .cells #[Value.slice none 0 0] 25, .cells #[Value.int .i64 0] 3, .cells (pvP p s1 (.slice a2 p.dbl.length c2)) 24] = w1 at ha hb1 hs1 ⊢
  replace hs1 : w1.heap.size = w.heap.size + 6 := hs1
  have hp1 : w1.heap[w.heap.size + 5]? = some (.cells (pvP p s1 (.slice a2 p.dbl.length c2)) 24) := ha 5 _ rfl
  have hl1 : Lie (w.heap.size + 1) [.cells #[Value.int .i64 (fr)] 3, .cells #[Value.int .i64 (n)] 3, .cells #[.slice none 0 0] 25, .cells #[.int .i64 0] 3] w1 := fun i o hi => by
    have := (List.getElem?_eq_some_iff.1 hi).1
    rw [show w.heap.size + 1 + i = w.heap.size + (i + 1) by omega]
    exact ha (i + 1) o (by match i, hi with | 0, hi => exact hi | 1, hi => exact hi | 2, hi => exact hi | 3, hi => exact hi | i + 4, hi => exact absurd this (by simp))
  refine range_X (gf := 80) (lb := #[.pointer (some ⟨w.heap.size + 5, 0, none⟩)]) (encs := fun x : Iss => #[.agg (issV x)]) (xs := allI p) (n₀ := w.heap.size) (Bp := w.heap.size + 5) rfl (enters_of Try.func80 (by kernel_rfl) rfl) (fun _ => rfl) (by omega) (by omega) (seq_x h hb1 hp1)
    (fun pre W => (∃ v, Lie (w.heap.size + 1) [.cells #[Value.int .i64 (fr)] 3, .cells #[Value.int .i64 (n)] 3, .cells #[v] 25, .cells #[.int .i64 (pre.length : Int)] 3] W ∧ W.ownsRow (w.heap.size + 9) 59 6 v (pre.length - F0) (flatI (pre.drop F0))) ∧ (F0 < pre.length → (pre.length : Int) - F0 ≤ n) ∧ Below w.heap.size w W)
    (fun c pre W => c = .exit 0 ∧ (∃ (pre' : List Iss) (x : Iss) (v : Value), pre = pre' ++ [x] ∧ Lie (w.heap.size + 1) [.cells #[Value.int .i64 (fr)] 3, .cells #[Value.int .i64 (n)] 3, .cells #[v] 25, .cells #[.int .i64 (pre'.length : Int)] 3] W ∧ W.ownsRow (w.heap.size + 9) 59 6 v (pre'.length - F0) (flatI (pre'.drop F0)) ∧ (F0 < pre'.length → (pre'.length : Int) - F0 ≤ n) ∧ F0 ≤ pre'.length ∧ n ≤ (pre'.length : Int) - F0) ∧ Below w.heap.size w W)
    (fun x a' W => ∃ bx, w1.heap.size + 2 < bx ∧ W.heap[bx]? = some (.cells (issV x) 59) ∧ a' = { tmps := #[.agg (pvP p s1 (.slice a2 p.dbl.length c2)), .int .i64 fr, .int .i64 n, .pointer (some ⟨w.heap.size, 0, none⟩), undef, undef, .slice none 0 0, .pointer (some ⟨w.heap.size + 1, 0, none⟩), .pointer (some ⟨w.heap.size + 1 + 1, 0, none⟩), .pointer (some ⟨w.heap.size + 1 + 1 + 1, 0, none⟩), .pointer (some ⟨w.heap.size + 1 + 1 + 1 + 1, 0, none⟩), .pointer (some ⟨bx, 0, none⟩), .int .i64 n, .bool false, .int .i64 fr, .int .i64 n, .int .i64 fr, .bool false, undef, undef, undef, .agg (pvP p s1 (.slice a2 p.dbl.length c2)), .func (.func 80) #[] #[.pointer (some ⟨w.heap.size + 1 + 1 + 1 + 1 + 1, 0, none⟩)], .agg (issV x), undef, undef, undef, undef, undef, undef, undef, undef, undef, undef, undef, undef, undef, undef, undef, undef, undef, undef, undef, undef], defers := [] })
    (fun s A A' ⟨⟨v, hl, ho⟩, hi, hb⟩ ht => ⟨⟨v, hl.turn ht (by simp; omega), own_heap ho fun g hg hl' => ht.block g hl' (by omega)⟩, hi, hb.trans (ht.below hb.size (by omega))⟩)
    (fun c s A A' ⟨hc, ⟨pre', x, v, e1, hl, ho, e2⟩, hb⟩ ht => ⟨hc, ⟨pre', x, v, e1, hl.turn ht (by simp; omega), own_heap ho fun g hg hl' => ht.block g hl' (by omega), e2⟩, hb.trans (ht.below hb.size (by omega))⟩)
    (fun s A o ⟨⟨v, hl, ho⟩, hi, hb⟩ => ⟨⟨v, hl.put (by simp; omega), own_heap ho fun g hg hl' => World.putObj_heap_other (by omega)⟩, hi, hb.trans (put_below hb.size (by omega) o)⟩)
    (fun c s A o ⟨hc, ⟨pre', x, v, e1, hl, ho, e2⟩, hb⟩ => ⟨hc, ⟨pre', x, v, e1, hl.put (by simp; omega), own_heap ho fun g hg hl' => World.putObj_heap_other (by omega), e2⟩, hb.trans (put_below hb.size (by omega) o)⟩)
    (fun x a' A o ⟨bx, h1, h2, h3⟩ => ⟨bx, h1, (World.putObj_heap_other (by omega)).trans h2, h3⟩)
    ⟨⟨_, hl1, by simpa [flatI] using World.ownsRow_nil w1 (w.heap.size + 9) 59 6⟩, by simp, hb1⟩ ?assign ?body ?done ?stop
  case assign =>
    rintro pre x W K ⟨⟨v, hl, ho⟩, hi', hb⟩ hsz hK
    gi_wp2
    exact hK _ _ ⟨(Below.refl _ W).alloc hb.size _, fun k _ hk => Below.heap_alloc W _ k hk⟩ ⟨⟨v, hl.turn (B := w1.heap.size + 2) (Turn.alloc _) (by simp; omega), own_heap ho fun g hg hl' => Below.heap_alloc W _ g hl'⟩, hi', hb.trans ((Below.refl _ W).alloc hb.size _)⟩ ⟨W.heap.size, hsz, World.alloc_heap_new W _, rfl⟩
  case body =>
    rintro pre x a' W ⟨⟨v, hl, ho⟩, hnn, hb⟩ ⟨bx, hbx, hcx, rfl⟩ hsz hpre
    replace hnn : Hid (F0 < pre.length → (pre.length : Int) - F0 ≤ n) := hnn
    clear ha hb1 hl1
    have cf : W.cell? ⟨w.heap.size + 1, 0, none⟩ = some (.int .i64 (fr)) := (box1 (hl 0 _ rfl)).1
    have cc : W.cell? ⟨w.heap.size + 1 + 1, 0, none⟩ = some (.int .i64 (n)) := (box1 (hl 1 _ rfl)).1
    have co : W.cell? ⟨w.heap.size + 1 + 1 + 1, 0, none⟩ = some v := (box1 (hl 2 _ rfl)).1
    have ck : W.cell? ⟨w.heap.size + 1 + 1 + 1 + 1, 0, none⟩ = some (.int .i64 (pre.length : Int)) := (box1 (hl 3 _ rfl)).1
    have fk : W.frozen? ⟨w.heap.size + 1 + 1 + 1 + 1, 0, none⟩ = false := (box1 (hl 3 _ rfl)).2
    have fo : W.frozen? ⟨w.heap.size + 1 + 1 + 1, 0, none⟩ = false := (box1 (hl 2 _ rfl)).2
    obtain ⟨⟨x0, x1, x2, x3, x4, x5⟩, _⟩ := box6 hcx
    have h5 : pre.length + 1 ≤ 5000 := by have h1 := hpre.length_le; have h2 := allI_len p; rw [List.length_append, List.length_singleton] at h1; omega
    have hlE : ∀ V : World, (∀ k, k < W.heap.size → k < w.heap.size + 9 → V.heap[k]? = W.heap[k]?) → Lie (w.heap.size + 1) [.cells #[Value.int .i64 (fr)] 3, .cells #[Value.int .i64 (n)] 3, .cells #[v] 25, .cells #[.int .i64 (pre.length : Int)] 3] V := fun V hV => hl.eq (fun k h1 h2 => hV k (by simp at h2; omega) (by simp at h2; omega))
    have hb3 : w.heap.size + 9 ≤ (W.alloc (.cells (issV x) 59)).heap.size := by simp; omega
    by_cases g1 : fr ≤ (pre.length : Int)
    · by_cases g2 : n ≤ (pre.length : Int) - (fr)
      · have z1 : F0 ≤ pre.length := by omega
        have z2 : n ≤ (pre.length : Int) - F0 := by omega
        have m1 : wrap64 ((pre.length : Int) + 1) = (pre.length : Int) + 1 := wr_one h5
        have m2 : wrap64 ((pre.length : Int) - (fr)) = (pre.length : Int) - (fr) := wr_sub h5 (by omega) (by omega)
        replace z1 : Hid _ := z1
        replace z2 : Hid _ := z2
        replace hlE : Hid _ := hlE
        replace hf : Hid _ := hf
        replace hf0 : Hid _ := hf0
        replace hn1 : Hid _ := hn1
        replace hr : Hid _ := hr
        replace hn : Hid _ := hn
        replace hb3 : Hid _ := hb3
        clear h5 hpre
        gi_wp2
        exact ⟨Keep.refl _, rfl, ⟨pre, x, v, rfl, hl, ho, hnn, z1, z2⟩, hb⟩
      · have hm1 : pre.length - F0 + 1 ≤ maxLen := by simp only [maxLen]; omega
        have hm2 : (pre.length - F0 + 1) * 48 ≤ 140737488355328 := by omega
        have hob := own_block ho
        replace hm1 : Hid _ := hm1
        replace hm2 : Hid _ := hm2
        replace hb3 : Hid _ := hb3
        have z3 : (F0 < (pre ++ [x]).length → ((pre ++ [x]).length : Int) - F0 ≤ n) := fun _ => by rw [List.length_append, List.length_singleton]; omega
        have m1 : wrap64 ((pre.length : Int) + 1) = (pre.length : Int) + 1 := wr_one h5
        have m2 : wrap64 ((pre.length : Int) - (fr)) = (pre.length : Int) - (fr) := wr_sub h5 (by omega) (by omega)
        replace z3 : Hid _ := z3
        replace hob : Hid _ := hob
        replace hlE : Hid _ := hlE
        replace hf : Hid _ := hf
        replace hf0 : Hid _ := hf0
        replace hn1 : Hid _ := hn1
        replace hr : Hid _ := hr
        replace hn : Hid _ := hn
        replace hs1 : Hid _ := hs1
        clear h5 hpre
        gi_wp2_with (gi_at_builtin; refine wpListIn_append_own _ rfl _ _ 25 rfl (w.heap.size + 9) 59 i0 (.agg #[.int .i64 0, .int .i64 0, .int .i64 0, .int .i64 0, .int .i64 0, .int .i64 0]) 6 48 Try.underlying25 hi hz0 hz1 hz2 rfl (by decide) _ _ _ rfl (ho.alloc _) ⟨W.heap.size, 0, none⟩ 1 1 (issV x).toList rfl rfl (cells_new _ _ _) (by simp [Value.oneCell']) hm1 hm2 hb3 ?_; intro v' V hown' hgrow _; obtain ⟨g', cap', rfl⟩ := ownsRow_succ hown'; have hgk := grow_keep hgrow (show ∀ g, v.ownBlock = some g → w.heap.size + 9 ≤ g from hob); have hlV := (show ∀ V : World, _ → _ from hlE) V hgk; have coV := (box1 (b := w.heap.size + 1 + 1 + 1) (hlV 2 _ rfl)).1; have foV := (box1 (b := w.heap.size + 1 + 1 + 1) (hlV 2 _ rfl)).2; have ckV := (box1 (b := w.heap.size + 1 + 1 + 1 + 1) (hlV 3 _ rfl)).1; have fkV := (box1 (b := w.heap.size + 1 + 1 + 1 + 1) (hlV 3 _ rfl)).2)
        clear m1 m2
        unfold Hid at z3 hob hlE hf hf0 hn1 hr hn hs1
        have hkV : Keep w.heap.size (KX (w.heap.size + 6) (w.heap.size + 5)) W V := ⟨((Below.refl w.heap.size W).alloc hb.size _).grown hgrow (by simp; have := hb.size; omega) (fun k e => by have := hob k e; omega), fun k hk hlt => hgk k hlt (by unfold KX at hk; omega)⟩
        have hk : Keep w.heap.size (KX (w.heap.size + 6) (w.heap.size + 5)) W ((V.setCell ⟨w.heap.size + 1 + 1 + 1, 0, none⟩ (.slice (some ⟨g', 0, none⟩) (pre.length - F0 + 1) cap')).setCell ⟨w.heap.size + 1 + 1 + 1 + 1, 0, none⟩ (.int .i64 ((pre.length : Int) + 1))) :=
          (hkV.trans (keep_set (by omega) (by unfold KX; omega))).trans (keep_set (by omega) (by unfold KX; omega))
        have hdr : (pre ++ [x]).drop F0 = pre.drop F0 ++ [x] := List.drop_append_of_le_length (by omega)
        have l2 := hlV.set (i := 2) (j := 0) (v := .slice (some ⟨g', 0, none⟩) (pre.length - F0 + 1) cap') (by simp) (box1_set (hlV 2 _ rfl))
        have l3 := l2.set (i := 3) (j := 0) (v := .int .i64 ((pre.length : Int) + 1)) (by simp) (box1_set (l2 3 _ rfl))
        refine ⟨by rw [hs1]; exact hk, ⟨_, by simpa using l3, ?_⟩, z3, hb.trans hk.below⟩
        rw [hdr, flatI_snoc, show (pre ++ [x]).length - F0 = pre.length - F0 + 1 by simp; omega]
        exact own_heap hown' fun g hg _ => (set_other (by simp; omega)).trans (set_other (by simp; omega))
    · have z3 : (F0 < (pre ++ [x]).length → ((pre ++ [x]).length : Int) - F0 ≤ n) := fun h => by rw [List.length_append, List.length_singleton] at h; omega
      have m1 : wrap64 ((pre.length : Int) + 1) = (pre.length : Int) + 1 := wr_one h5
      have m2 : wrap64 ((pre.length : Int) - (fr)) = (pre.length : Int) - (fr) := wr_sub h5 (by omega) (by omega)
      replace z3 : Hid _ := z3
      replace hlE : Hid _ := hlE
      replace hf : Hid _ := hf
      replace hf0 : Hid _ := hf0
      replace hn1 : Hid _ := hn1
      replace hr : Hid _ := hr
      replace hn : Hid _ := hn
      replace hb3 : Hid _ := hb3
      clear h5 hpre
      gi_wp2
      clear m1 m2
      unfold Hid at z3 hf hf0 hn1 hr hn
      have hk : Keep w.heap.size (KX (w.heap.size + 6) (w.heap.size + 5)) W (W.setCell ⟨w.heap.size + 1 + 1 + 1 + 1, 0, none⟩ (.int .i64 ((pre.length : Int) + 1))) := keep_set (by omega) (by unfold KX; omega)
      have hdr : (pre ++ [x]).drop F0 = [] := List.drop_eq_nil_of_le (by simp; omega)
      have hdr0 : pre.drop F0 = [] := List.drop_eq_nil_of_le (by omega)
      rw [hdr0, show pre.length - F0 = 0 by omega] at ho
      refine ⟨hk, ⟨v, ?_, ?_⟩, z3, hb.trans hk.below⟩
      · have := hl.set (i := 3) (j := 0) (v := .int .i64 ((pre.length : Int) + 1)) (by simp) (box1_set (hl 3 _ rfl))
        simpa using this
      · rw [hdr, show (pre ++ [x]).length - F0 = 0 by simp; omega]
        exact own_heap ho fun g hg _ => set_other (by simp; omega)
  case done =>
    rintro W ⟨⟨v, hl, ho⟩, hnn, hb⟩ hD
    have co : W.cell? ⟨w.heap.size + 1 + 1 + 1, 0, none⟩ = some v := (box1 (hl 2 _ rfl)).1
    gi_wp2
    refine ⟨by simp, .inl ⟨_, _, rfl, run_takeDeferred hD, ?_⟩⟩
    refine ⟨_, results_tmp rfl _ _ _, v, rfl, ?_, hb.trans (put_below hb.size (by omega) _)⟩
    rw [list_all (C := n) hnn, List.length_drop]
    exact own_base (own_heap ho fun g hg hl' => World.putObj_heap_other (by omega)) (by omega)
  case stop =>
    rintro c pre W hpre ⟨rfl, ⟨pre', x, v, rfl, hl, ho, e2, e3, e4⟩, hb⟩ hD
    have co : W.cell? ⟨w.heap.size + 1 + 1 + 1, 0, none⟩ = some v := (box1 (hl 2 _ rfl)).1
    gi_wp2
    refine ⟨by simp, .inl ⟨_, _, rfl, run_takeDeferred hD, ?_⟩⟩
    refine ⟨_, results_tmp rfl _ _ _, v, rfl, ?_, hb.trans (put_below hb.size (by omega) _)⟩
    rw [list_cut hpre e2 e3 e4, List.length_drop]
    exact own_base (own_heap ho fun g hg hl' => World.putObj_heap_other (by omega)) (by omega)

end Go.Proofs.Ytceapemkefaicaa

set_option maxRecDepth 100000
set_option linter.unusedSimpArgs false
set_option linter.unusedVariables false
namespace Go.Proofs.Ytceapemkefaicaa
open Go Ab Pl
open Go.RowKit Go.Shelf
attribute [local go_sem] Oper.semAt_some
theorem List_nil {p : Pat} {s1 : Value} {a2 : Option Addr} {c2 : Nat} (w : World) (fr n : Int) (hn : n < 1) :
    CallsIn Fence.wide 3 Try.prog 42 #[.agg (pvP p s1 (.slice a2 p.dbl.length c2)), .int .i64 fr, .int .i64 n] w fun e W' => e = .returned (.slice none 0 0) ∧ Below w.heap.size w W' := by
  refine callsIn_of_wp Try.func42 rfl trivial ?_ rfl
  simp only [Try.ntmps42, List.size_toArray, List.length_cons, List.length_nil, Nat.reduceAdd, Nat.reduceSub, Array.replicate_succ, Array.replicate_zero, List.push_toArray, List.append_toArray, List.nil_append, List.cons_append]
  gi_wp2
  go_ret
  exact ⟨rfl, (Below.refl _ w).alloc (Nat.le_refl _) _⟩
theorem flatI_get : ∀ (l : List Iss) (i j : Nat) (x : Iss), l[i]? = some x → j < 6 → (flatI l)[i * 6 + j]? = (issV x).toList[j]?
  | y :: l, 0, j, x, h, hj => by
    cases h
    show ((issV y).toList ++ flatI l)[0 * 6 + j]? = _
    rw [Nat.zero_mul, Nat.zero_add, List.getElem?_append_left (by simpa using hj)]
  | y :: l, i + 1, j, x, h, hj => by
    show ((issV y).toList ++ flatI l)[(i + 1) * 6 + j]? = _
    rw [List.getElem?_append_right (by simp; omega), show (i + 1) * 6 + j - (issV y).toList.length = i * 6 + j by simp; omega]
    exact flatI_get l i j x h hj
theorem rep_cell {w : World} {S : Nat → Nat → Prop} {x : Iss} (h : IssSm x) {j : Nat} {c : D} (hc : (encIss x).cells[j]? = some c) : ∃ v, (issV x).toList[j]? = some v ∧ Rep w S c v := by
  unfold IssSm at h
  match j, hc with
  | 0, hc => simp [encIss, D.cells] at hc; subst hc; exact ⟨_, rfl, .int _ _ (by simp; omega)⟩
  | 1, hc => simp [encIss, D.cells] at hc; subst hc; exact ⟨_, rfl, .int _ _ (by simp; omega)⟩
  | 2, hc => simp [encIss, D.cells] at hc; subst hc; exact ⟨_, rfl, .int _ _ (by simp; omega)⟩
  | 3, hc => simp [encIss, D.cells] at hc; subst hc; exact ⟨_, rfl, .int _ _ (by simp; omega)⟩
  | 4, hc => simp [encIss, D.cells] at hc; subst hc; exact ⟨_, rfl, .int _ _ (by simp; omega)⟩
  | 5, hc => simp [encIss, D.cells] at hc; subst hc; exact ⟨_, rfl, .int _ _ (by simp; omega)⟩
  | j + 6, hc => simp [encIss, D.cells] at hc
theorem rep_isss {w W : World} {S : Nat → Nat → Prop} {l : List Iss} {v : Value} {t : TypeId} (h : W.ownsRow w.heap.size t 6 v l.length (flatI l)) (hs : ∀ x ∈ l, IssSm x) : Rep W (stayed w W S none) (encIsss l) v := by
  obtain ⟨h0, ⟨rfl, h1⟩ | ⟨g, cap, cur, rfl, e2, e3, e4, e5, e6, e7⟩⟩ := h
  · rw [List.length_eq_zero_iff.1 h1]; exact .nil _ none 0 (by simp [maxLen])
  · rw [encIsss_eq]
    have hg := (Array.getElem?_eq_some_iff.1 e3).1
    have hlen : l.length = (l.map encIss).length := by simp
    have at_i : ∀ (i : Nat) (e : D), (l.map encIss)[i]? = some e → ∃ x, l[i]? = some x ∧ encIss x = e := fun i e h => by simpa [List.getElem?_map] using h
    have val : ∀ (i j : Nat) (e c : D), (l.map encIss)[i]? = some e → e.cells[j]? = some c → ∃ v, (flatI l)[i * 6 + j]? = some v ∧ Rep W (stayed w W S none) c v := fun i j e c h1 h2 => by
      obtain ⟨x, hx, rfl⟩ := at_i i e h1
      have hj : j < 6 := (List.getElem?_eq_some_iff.1 h2).1
      obtain ⟨v, hv, hr⟩ := rep_cell (w := W) (S := stayed w W S none) (hs x (List.mem_of_getElem? hx)) h2
      exact ⟨v, by rw [flatI_get l i j x hx hj]; exact hv, hr⟩
    rw [hlen]
    refine .slice (encIss zIss) 6 rfl (l.map encIss) g 0 cap (fun i j => ((flatI l)[i * 6 + j]?).getD undef) (by rw [← hlen]; exact e4) e5 (fun e he => ?_) (fun i e j c h1 h2 => ?_) (fun i e j c h1 h2 => ?_)
    · obtain ⟨x, hx, rfl⟩ := List.mem_map.1 he
      exact ⟨rfl, by simp [encIss, D.cells, D.flat]⟩
    · obtain ⟨v, hv, hr⟩ := val i j e c h1 h2
      refine ⟨.inr ⟨e2, hg, by simp⟩, ?_⟩
      have hc : cur[i * 6 + j]? = some v := by
        rw [← e7, List.getElem?_take] at hv
        split at hv
        · rw [← Array.getElem?_toList]; exact hv
        · cases hv
      rw [Nat.zero_add, hv]
      exact cell_of e3 hc
    · obtain ⟨v, hv, hr⟩ := val i j e c h1 h2
      rw [hv]; exact hr
theorem pattern_List (p : Pat) (fr n : Int) (hp : PatOk p) : ACalls E.P 42 [encPat p, .int .i64 fr, .int .i64 n] (.d (encIsss (listR p fr n))) := by
  refine ⟨⟨_, Try.func42, by kernel_rfl, rfl⟩, fun w S vs hG hS hs hr => ?_⟩
  obtain ⟨l⟩ := vs
  match l, hs with
  | [v0, v1, v2], _ =>
    have r0 := hr 0 _ rfl; have r1 := hr 1 _ rfl; have r2 := hr 2 _ rfl
    simp at r0 r1 r2
    obtain ⟨s1, a2, c2, rfl⟩ := pat_open r0
    cases r1 with
    | int _ _ h1 =>
      cases r2 with
      | int _ _ h2 =>
        have hpw : PW p s1 (.slice a2 p.dbl.length c2) S w := ⟨hp, hG, hS, r0⟩
        simp at h1 h2
        by_cases hn : n < 1
        · refine (callsIn_wide.1 (List_nil w fr n hn)).mono ?_
          rintro e w' ⟨rfl, hb⟩
          refine ⟨_, rfl, hb, ?_⟩
          show Rep w' _ (encIsss (listR p fr n)) _
          unfold listR; rw [if_pos hn]; exact .nil _ none 0 (by simp [maxLen])
        · by_cases hf : fr < 0
          · refine (callsIn_wide.1 (List_neg hpw fr n 0 (by omega) ⟨h2.2, h1.1, h1.2⟩ hf rfl)).mono ?_
            rintro e w' ⟨v, rfl, ho, hb⟩
            refine ⟨_, rfl, hb, ?_⟩
            show Rep w' _ (encIsss (listR p fr n)) _
            unfold listR; rw [if_neg hn, if_pos hf]
            rw [List.drop_zero] at ho
            exact rep_isss ho fun x hx => (allI_rng hp (List.mem_of_mem_take hx)).sm
          · refine (callsIn_wide.1 (List_pos hpw fr n fr.toNat (by omega) ⟨h2.2, h1.1, h1.2⟩ hf (by omega))).mono ?_
            rintro e w' ⟨v, rfl, ho, hb⟩
            refine ⟨_, rfl, hb, ?_⟩
            show Rep w' _ (encIsss (listR p fr n)) _
            unfold listR; rw [if_neg hn, if_neg hf]
            exact rep_isss ho fun x hx => (allI_rng hp (List.mem_of_mem_drop (List.mem_of_mem_take hx))).sm

end Go.Proofs.Ytceapemkefaicaa

set_option maxRecDepth 100000
set_option linter.unusedSimpArgs false
set_option linter.unusedVariables false
namespace Go.Proofs.Ytceapemkefaicaa
open Go Ab Pl
theorem slices_Clone_api_Issue_api_Issue (l : List Iss) (hl : l.length ≤ 1000000) : ACalls E.P 48 [encIsss l] (.own (encIss zIss) (l.map encIss)) := by
  refine ACalls.intro E_ok Try.func48 rfl rfl Try.ntmps48 Try.results48 (Nat.le_of_ble_eq_true rfl) fun hok base S0 w0 => ?_
  -- region 0
  refine AWp.rseq E_ok [0, 2, 4] fun K hK => ?_
  simp [encIsss_eq, encIss_eq]
  repeat refine ⟨by first | omega | assumption | (simp only [maxLen]; omega) | (intros; omega) | decide, ?_⟩
  refine hK _ ?_
  clear hK K
  refine AWp.seq ?_
  -- region 1
  refine AWp.rseq E_ok [0, 2, 4] fun K hK => ?_
  simp [encIsss_eq, encIss_eq]
  intro q
  repeat refine ⟨by first | omega | assumption | (simp only [maxLen]; omega) | (intros; omega) | decide, ?_⟩
  refine hK _ ?_
  clear hK K
  refine AWp.cond rfl (fun h4 => ?_) (fun h4 => ?_)
  · try simp at h4
    have hn : l = [] := by cases l with | nil => rfl | cons a r => exact absurd (q.h (by simp)) (by rw [h4]; decide)
    -- region 2
    refine AWp.rseq E_ok [0, 2, 4] fun K hK => ?_
    simp [encIsss_eq, encIss_eq, h4]
    repeat refine ⟨by first | omega | assumption | (simp only [maxLen]; omega) | (intros; omega) | decide, ?_⟩
    refine hK _ ?_
    clear hK K
    refine AWp.ret ?_
    repeat first | refine thenN ?_ | refine thenX ?_ | refine thenR ?_ | refine blockN ?_ | refine blockR ?_ | refine blockX ?_ | refine blockM rfl ?_
    first | (simp [RetOk, encIss_eq, zIss]; done) | (simp [RetOk, hn, encIss_eq, zIss])
  · try simp at h4
    refine AWp.skip ?_
    repeat first | refine thenN ?_ | refine thenX ?_ | refine thenR ?_ | refine blockN ?_ | refine blockR ?_ | refine blockX ?_ | refine blockM rfl ?_
    -- region 3
    refine AWp.rseq E_ok [0, 2, 4] fun K hK => ?_
    simp [encIsss_eq, encIss_eq, h4]
    repeat refine ⟨by first | omega | assumption | (simp only [maxLen]; omega) | (intros; omega) | decide, ?_⟩
    refine hK _ ?_
    clear hK K
    refine AWp.ret ?_
    repeat first | refine thenN ?_ | refine thenX ?_ | refine thenR ?_ | refine blockN ?_ | refine blockR ?_ | refine blockX ?_ | refine blockM rfl ?_
    first | (simp [RetOk, encIss_eq, zIss]; done) | (simp [RetOk, hn, encIss_eq, zIss])
end Go.Proofs.Ytceapemkefaicaa
