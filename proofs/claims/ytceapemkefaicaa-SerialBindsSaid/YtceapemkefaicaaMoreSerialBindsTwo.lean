/-
  What the functions compute that the statement reaches: contracts, and the plain laws between them. Conditions stand at each theorem.
-/
import Derived.Test.YtceapemkefaicaaMoreSerialBindsOne
set_option linter.unusedVariables false
set_option linter.unusedSimpArgs false
set_option maxRecDepth 100000
set_option linter.unusedSimpArgs false
set_option linter.unusedVariables false
namespace Go.Proofs.Ytceapemkefaicaa
open Go Ab Pl
theorem ref37_count (s : Ser) (v a b : Int) (hl : s.iss.length ≤ 1000) : ACalls E.P 58 [encSer s, .int .i64 v, .int .i64 a, .int .i64 b] (.tup [.int .i64 (cntF v a b (0, 0) s.iss).1, .int .i64 (cntF v a b (0, 0) s.iss).2]) := by
  refine ACalls.intro E_ok Try.func58 rfl rfl Try.ntmps58 Try.results58 (Nat.le_of_ble_eq_true rfl) fun hok base S0 w0 => ?_
  -- region 0
  refine AWp.rseq E_ok [0, 1, 2, 3, 4, 8, 9, 10, 11, 12, 13, 18, 29, 41] fun K hK => ?_
  simp [encSer_eq, encIsss_eq, encIss_eq]
  try simp (disch := omega) only [wrap_i64]
  repeat refine ⟨by first | omega | assumption | (simp only [maxLen]; omega) | (intros; omega) | decide, ?_⟩
  refine hK _ ?_
  clear hK K
  -- region 1
  refine AWp.rseq E_ok [0, 1, 2, 3, 4, 8, 9, 10, 11, 12, 13, 18, 29, 41] fun K hK => ?_
  simp [encSer_eq, encIsss_eq, encIss_eq]
  try simp (disch := omega) only [wrap_i64]
  repeat refine ⟨by first | omega | assumption | (simp only [maxLen]; omega) | (intros; omega) | decide, ?_⟩
  refine hK _ ?_
  clear hK K
  refine AWp.seq ?_
  -- region 2
  refine AWp.rseq E_ok [0, 1, 2, 3, 4, 8, 9, 10, 11, 12, 13, 18, 29, 41] fun K hK => ?_
  simp [encSer_eq, encIsss_eq, encIss_eq]
  try simp (disch := omega) only [wrap_i64]
  repeat refine ⟨by first | omega | assumption | (simp only [maxLen]; omega) | (intros; omega) | decide, ?_⟩
  refine hK _ ?_
  clear hK K
  refine AWp.block ?_
  refine AWp.range (l := s.iss) (F := cntF v a b) (tot := cntF v a b (0, 0) s.iss) (fun k y => match y with | (p, q) => (0 ≤ q ∧ q ≤ p) ∧ p ≤ (k : Int)) (fun k y => match y with | (p, q) => [(0, T.val (D.agg [D.int IntKind.i64 s.rcd, D.int IntKind.i64 s.pat.start, D.int IntKind.i64 s.pat.every, D.int IntKind.i64 s.pat.per, D.int IntKind.i64 s.pat.first, encInts s.pat.skip, encInts s.pat.dbl, D.int IntKind.i64 s.next, (D.agg [D.int IntKind.i64 zIss.vol, D.int IntKind.i64 zIss.num, D.int IntKind.i64 zIss.last, D.int IntKind.i64 zIss.day, D.int IntKind.i64 zIss.st, D.int IntKind.i64 zIss.item]).slice (List.map encIss s.iss)])), (1, T.val (D.int IntKind.i64 v)), (2, T.val (D.int IntKind.i64 a)), (3, T.val (D.int IntKind.i64 b)), (4, T.box [C.d (D.int IntKind.i64 s.rcd), C.d (D.int IntKind.i64 s.pat.start), C.d (D.int IntKind.i64 s.pat.every), C.d (D.int IntKind.i64 s.pat.per), C.d (D.int IntKind.i64 s.pat.first), C.d (encInts s.pat.skip), C.d (encInts s.pat.dbl), C.d (D.int IntKind.i64 s.next), C.d ((D.agg [D.int IntKind.i64 zIss.vol, D.int IntKind.i64 zIss.num, D.int IntKind.i64 zIss.last, D.int IntKind.i64 zIss.day, D.int IntKind.i64 zIss.st, D.int IntKind.i64 zIss.item]).slice (List.map encIss s.iss))]), (10, T.val (.int .i64 p)), (11, T.val (.int .i64 q)), (12, T.val (.int .i64 k))]) (0, 0) ?_ rfl ?_ ?_
  · simp [Weak, TW, encSer_eq, encIsss_eq, encIss_eq]
  · first | exact trivial | (simp; omega) | simp
  rintro k ⟨p, q⟩ hk hs hi
  try simp only at hi
  refine AWp.seq ?_
  -- region 3
  refine AWp.rseq E_ok [0, 1, 2, 3, 4, 8, 9, 10, 11, 12, 13, 18, 29, 41] fun K hK => ?_
  simp [encSer_eq, encIsss_eq, encIss_eq]
  try simp (disch := omega) only [wrap_i64]
  repeat refine ⟨by first | omega | assumption | (simp only [maxLen]; omega) | (intros; omega) | decide, ?_⟩
  refine hK _ ?_
  clear hK K
  refine AWp.cond rfl (fun h18 => ?_) (fun h18 => ?_)
  · try simp at h18
    obtain ⟨x, hx, hxx, hd⟩ := at_indexG (l := s.iss) h18
    rw [hd] at hs
    refine AWp.skip ?_
    repeat first | refine thenN ?_ | refine thenX ?_ | refine thenR ?_ | refine blockN ?_ | refine blockR ?_ | refine blockX ?_ | refine blockM rfl ?_
    refine AWp.seq ?_
    refine AWp.block ?_
    -- region 5
    refine AWp.rseq E_ok [0, 1, 2, 3, 4, 8, 9, 10, 11, 12, 13, 18, 29, 41] fun K hK => ?_
    simp [encSer_eq, encIsss_eq, encIss_eq, h18, hx, hxx]
    try simp (disch := omega) only [wrap_i64]
    repeat refine ⟨by first | omega | assumption | (simp only [maxLen]; omega) | (intros; omega) | decide, ?_⟩
    refine hK _ ?_
    clear hK K
    -- region 6
    refine AWp.rseq E_ok [0, 1, 2, 3, 4, 8, 9, 10, 11, 12, 13, 18, 29, 41] fun K hK => ?_
    simp [encSer_eq, encIsss_eq, encIss_eq, h18, hx, hxx]
    try simp (disch := omega) only [wrap_i64]
    repeat refine ⟨by first | omega | assumption | (simp only [maxLen]; omega) | (intros; omega) | decide, ?_⟩
    refine hK _ ?_
    clear hK K
    refine AWp.cond rfl (fun h29 => ?_) (fun h29 => ?_)
    · try simp at h29
      rw [cntF, if_pos h29] at hs
      -- region 7
      refine AWp.rseq E_ok [0, 1, 2, 3, 4, 8, 9, 10, 11, 12, 13, 18, 29, 41] fun K hK => ?_
      simp [encSer_eq, encIsss_eq, encIss_eq, h18, hx, hxx]
      try simp (disch := omega) only [wrap_i64]
      repeat refine ⟨by first | omega | assumption | (simp only [maxLen]; omega) | (intros; omega) | decide, ?_⟩
      refine hK _ ?_
      clear hK K
      -- region 8
      refine AWp.rseq E_ok [0, 1, 2, 3, 4, 8, 9, 10, 11, 12, 13, 18, 29, 41] fun K hK => ?_
      simp [encSer_eq, encIsss_eq, encIss_eq, h18, hx, hxx]
      try simp (disch := omega) only [wrap_i64]
      repeat refine ⟨by first | omega | assumption | (simp only [maxLen]; omega) | (intros; omega) | decide, ?_⟩
      refine hK _ ?_
      clear hK K
      refine AWp.cond rfl (fun h41 => ?_) (fun h41 => ?_)
      · try simp at h41
        rw [if_pos h41] at hs
        -- region 9
        refine AWp.rend E_ok [0, 1, 2, 3, 4, 8, 9, 10, 11, 12, 13, 18, 29, 41] fun K hK => ?_
        simp [encSer_eq, encIsss_eq, encIss_eq, h18, hx, hxx]
        try simp (disch := omega) only [wrap_i64]
        repeat refine ⟨by first | omega | assumption | (simp only [maxLen]; omega) | (intros; omega) | decide, ?_⟩
        refine hK _ ?_
        clear hK K
        repeat first | refine thenN ?_ | refine thenX ?_ | refine thenR ?_ | refine blockN ?_ | refine blockR ?_ | refine blockX ?_ | refine blockM rfl ?_
        -- region 4
        refine AWp.rend E_ok [0, 1, 2, 3, 4, 8, 9, 10, 11, 12, 13, 18, 29, 41] fun K hK => ?_
        simp [encSer_eq, encIsss_eq, encIss_eq, h18, hx, hxx]
        try simp (disch := omega) only [wrap_i64]
        repeat refine ⟨by first | omega | assumption | (simp only [maxLen]; omega) | (intros; omega) | decide, ?_⟩
        refine hK _ ?_
        clear hK K
        repeat first | refine thenN ?_ | refine thenX ?_ | refine thenR ?_ | refine blockN ?_ | refine blockR ?_ | refine blockX ?_ | refine blockM rfl ?_
        have hw : IntKind.i64.wrap ((k : Int) + 1) = (k : Int) + 1 := by rw [wrap_i64] <;> omega
        skip
        refine ⟨_, h18, hs, ?_, ?_⟩
        · first | exact trivial | (simp; omega) | simp
        · simp [Weak, TW, hw, encSer_eq, encIsss_eq, encIss_eq]
      · try simp at h41
        rw [if_neg (by omega)] at hs
        refine AWp.skip ?_
        repeat first | refine thenN ?_ | refine thenX ?_ | refine thenR ?_ | refine blockN ?_ | refine blockR ?_ | refine blockX ?_ | refine blockM rfl ?_
        -- region 4
        refine AWp.rend E_ok [0, 1, 2, 3, 4, 8, 9, 10, 11, 12, 13, 18, 29, 41] fun K hK => ?_
        simp [encSer_eq, encIsss_eq, encIss_eq, h18, hx, hxx]
        try simp (disch := omega) only [wrap_i64]
        repeat refine ⟨by first | omega | assumption | (simp only [maxLen]; omega) | (intros; omega) | decide, ?_⟩
        refine hK _ ?_
        clear hK K
        repeat first | refine thenN ?_ | refine thenX ?_ | refine thenR ?_ | refine blockN ?_ | refine blockR ?_ | refine blockX ?_ | refine blockM rfl ?_
        have hw : IntKind.i64.wrap ((k : Int) + 1) = (k : Int) + 1 := by rw [wrap_i64] <;> omega
        skip
        refine ⟨_, h18, hs, ?_, ?_⟩
        · first | exact trivial | (simp; omega) | simp
        · simp [Weak, TW, hw, encSer_eq, encIsss_eq, encIss_eq]
    · try simp at h29
      rw [cntF, if_neg (by omega)] at hs
      refine AWp.skip ?_
      repeat first | refine thenN ?_ | refine thenX ?_ | refine thenR ?_ | refine blockN ?_ | refine blockR ?_ | refine blockX ?_ | refine blockM rfl ?_
      -- region 4
      refine AWp.rend E_ok [0, 1, 2, 3, 4, 8, 9, 10, 11, 12, 13, 18, 29, 41] fun K hK => ?_
      simp [encSer_eq, encIsss_eq, encIss_eq, h18, hx, hxx]
      try simp (disch := omega) only [wrap_i64]
      repeat refine ⟨by first | omega | assumption | (simp only [maxLen]; omega) | (intros; omega) | decide, ?_⟩
      refine hK _ ?_
      clear hK K
      repeat first | refine thenN ?_ | refine thenX ?_ | refine thenR ?_ | refine blockN ?_ | refine blockR ?_ | refine blockX ?_ | refine blockM rfl ?_
      have hw : IntKind.i64.wrap ((k : Int) + 1) = (k : Int) + 1 := by rw [wrap_i64] <;> omega
      skip
      refine ⟨_, h18, hs, ?_, ?_⟩
      · first | exact trivial | (simp; omega) | simp
      · simp [Weak, TW, hw, encSer_eq, encIsss_eq, encIss_eq]
  · try simp at h18
    obtain rfl : k = s.iss.length := by omega
    simp [cntF] at hs
    refine AWp.exit ?_
    repeat first | refine thenN ?_ | refine thenX ?_ | refine thenR ?_ | refine blockN ?_ | refine blockR ?_ | refine blockX ?_ | refine blockM rfl ?_
    -- region 10
    refine AWp.rseq E_ok [0, 1, 2, 3, 4, 8, 9, 10, 11, 12, 13, 18, 29, 41] fun K hK => ?_
    simp [encSer_eq, encIsss_eq, encIss_eq, h18]
    try simp (disch := omega) only [wrap_i64]
    repeat refine ⟨by first | omega | assumption | (simp only [maxLen]; omega) | (intros; omega) | decide, ?_⟩
    refine hK _ ?_
    clear hK K
    refine AWp.ret ?_
    repeat first | refine thenN ?_ | refine thenX ?_ | refine thenR ?_ | refine blockN ?_ | refine blockR ?_ | refine blockX ?_ | refine blockM rfl ?_
    simp [RetOk, RV, RVs, ← hs]
end Go.Proofs.Ytceapemkefaicaa

set_option maxRecDepth 100000
set_option linter.unusedSimpArgs false
set_option linter.unusedVariables false
namespace Go.Proofs.Ytceapemkefaicaa
open Go Ab Pl
theorem ref37_numbered (x : Iss) (n : Int) : ACalls E.P 77 [encIss x, .int .i64 n] (.d (.bool (decide (x.num = n ∨ x.num ≤ n ∧ n ≤ x.last)))) := by
  refine ACalls.intro E_ok Try.func77 rfl rfl Try.ntmps77 Try.results77 (Nat.le_of_ble_eq_true rfl) fun hok base S0 w0 => ?_
  -- region 0
  refine AWp.rseq E_ok [0, 1, 2, 4] fun K hK => ?_
  simp [encIss_eq]
  repeat refine ⟨by first | omega | assumption | (simp only [maxLen]; omega) | (intros; omega) | decide, ?_⟩
  refine hK _ ?_
  clear hK K
  -- region 1
  refine AWp.rseq E_ok [0, 1, 2, 4] fun K hK => ?_
  simp [encIss_eq]
  repeat refine ⟨by first | omega | assumption | (simp only [maxLen]; omega) | (intros; omega) | decide, ?_⟩
  refine hK _ ?_
  clear hK K
  refine AWp.ret ?_
  repeat first | refine thenN ?_ | refine thenX ?_ | refine thenR ?_ | refine blockN ?_ | refine blockR ?_ | refine blockX ?_ | refine blockM rfl ?_
  simp [RetOk, RV]; rw [Bool.eq_iff_iff]; simp
end Go.Proofs.Ytceapemkefaicaa

set_option maxRecDepth 100000
set_option linter.unusedSimpArgs false
set_option linter.unusedVariables false
namespace Go.Proofs.Ytceapemkefaicaa
open Go Ab Pl
theorem ref37_find (s : Ser) (v n : Int) (hl : s.iss.length ≤ 1000) : ACalls E.P 53 [encSer s, .int .i64 v, .int .i64 n] (.d (.int .i64 (fndR s.iss v n))) := by
  refine ACalls.intro E_ok Try.func53 rfl rfl Try.ntmps53 Try.results53 (Nat.le_of_ble_eq_true rfl) fun hok base S0 w0 => ?_
  -- region 0
  refine AWp.rseq E_ok [0, 1, 2, 3, 6, 7, 12, 31] fun K hK => ?_
  simp [encSer_eq, encIsss_eq, encIss_eq]
  repeat refine ⟨by first | omega | assumption | (simp only [maxLen]; omega) | (intros; omega) | decide, ?_⟩
  refine hK _ ?_
  clear hK K
  refine AWp.seq ?_
  -- region 1
  refine AWp.rseq E_ok [0, 1, 2, 3, 6, 7, 12, 31] fun K hK => ?_
  simp [encSer_eq, encIsss_eq, encIss_eq]
  repeat refine ⟨by first | omega | assumption | (simp only [maxLen]; omega) | (intros; omega) | decide, ?_⟩
  refine hK _ ?_
  clear hK K
  refine AWp.block ?_
  refine AWp.range (l := s.iss) (F := fndI v n) (tot := fndI v n 0 s.iss) (fun k y => match y with | i => i = (k : Int)) (fun k y => match y with | i => [(0, T.val (D.agg [D.int IntKind.i64 s.rcd, D.int IntKind.i64 s.pat.start, D.int IntKind.i64 s.pat.every, D.int IntKind.i64 s.pat.per, D.int IntKind.i64 s.pat.first, encInts s.pat.skip, encInts s.pat.dbl, D.int IntKind.i64 s.next, (D.agg [D.int IntKind.i64 zIss.vol, D.int IntKind.i64 zIss.num, D.int IntKind.i64 zIss.last, D.int IntKind.i64 zIss.day, D.int IntKind.i64 zIss.st, D.int IntKind.i64 zIss.item]).slice (List.map encIss s.iss)])), (1, T.val (D.int IntKind.i64 v)), (2, T.val (D.int IntKind.i64 n)), (3, T.box [C.d (D.int IntKind.i64 s.rcd), C.d (D.int IntKind.i64 s.pat.start), C.d (D.int IntKind.i64 s.pat.every), C.d (D.int IntKind.i64 s.pat.per), C.d (D.int IntKind.i64 s.pat.first), C.d (encInts s.pat.skip), C.d (encInts s.pat.dbl), C.d (D.int IntKind.i64 s.next), C.d ((D.agg [D.int IntKind.i64 zIss.vol, D.int IntKind.i64 zIss.num, D.int IntKind.i64 zIss.last, D.int IntKind.i64 zIss.day, D.int IntKind.i64 zIss.st, D.int IntKind.i64 zIss.item]).slice (List.map encIss s.iss))]), (7, T.val (.int .i64 k))]) (0) ?_ rfl ?_ ?_
  · simp [Weak, TW, encSer_eq, encIsss_eq, encIss_eq]
  · first | exact trivial | (simp; omega) | simp
  rintro k i hk hs hi
  try simp only at hi
  refine AWp.seq ?_
  -- region 2
  refine AWp.rseq E_ok [0, 1, 2, 3, 6, 7, 12, 31] fun K hK => ?_
  simp [encSer_eq, encIsss_eq, encIss_eq]
  repeat refine ⟨by first | omega | assumption | (simp only [maxLen]; omega) | (intros; omega) | decide, ?_⟩
  refine hK _ ?_
  clear hK K
  refine AWp.cond rfl (fun h12 => ?_) (fun h12 => ?_)
  · try simp at h12
    obtain ⟨x, hx, hxx, hd⟩ := at_indexG (l := s.iss) h12
    rw [hd] at hs
    have hLk : k < s.iss.length := by omega
    refine AWp.skip ?_
    repeat first | refine thenN ?_ | refine thenX ?_ | refine thenR ?_ | refine blockN ?_ | refine blockR ?_ | refine blockX ?_ | refine blockM rfl ?_
    refine AWp.seq ?_
    refine AWp.block ?_
    -- region 4
    refine AWp.rseq E_ok [0, 1, 2, 3, 6, 7, 12, 31] fun K hK => ?_
    simp [encSer_eq, encIsss_eq, encIss_eq, h12, hx, hxx]
    repeat refine ⟨by first | omega | assumption | (simp only [maxLen]; omega) | (intros; omega) | decide, ?_⟩
    refine meet.of (ref37_numbered x n) ?_
    simp [encSer_eq, encIsss_eq, encIss_eq, h12, hx, hxx]
    repeat refine ⟨by first | omega | assumption | (simp only [maxLen]; omega) | (intros; omega) | decide, ?_⟩
    refine hK _ ?_
    clear hK K
    refine AWp.cond rfl (fun h31 => ?_) (fun h31 => ?_)
    · try simp at h31
      rw [fndI, if_pos (by unfold Numd; simpa using h31)] at hs
      -- region 5
      refine AWp.rseq E_ok [0, 1, 2, 3, 6, 7, 12, 31] fun K hK => ?_
      simp [encSer_eq, encIsss_eq, encIss_eq, h12, hx, hxx]
      repeat refine ⟨by first | omega | assumption | (simp only [maxLen]; omega) | (intros; omega) | decide, ?_⟩
      refine hK _ ?_
      clear hK K
      refine AWp.ret ?_
      repeat first | refine thenN ?_ | refine thenX ?_ | refine thenR ?_ | refine blockN ?_ | refine blockR ?_ | refine blockX ?_ | refine blockM rfl ?_
      simp [RetOk, RV, fndR, ← hs, hi]
    · try simp at h31
      rw [fndI, if_neg (by unfold Numd; simpa using h31)] at hs
      refine AWp.skip ?_
      repeat first | refine thenN ?_ | refine thenX ?_ | refine thenR ?_ | refine blockN ?_ | refine blockR ?_ | refine blockX ?_ | refine blockM rfl ?_
      -- region 3
      refine AWp.rend E_ok [0, 1, 2, 3, 6, 7, 12, 31] fun K hK => ?_
      simp [encSer_eq, encIsss_eq, encIss_eq, h12, hx, hxx]
      repeat refine ⟨by first | omega | assumption | (simp only [maxLen]; omega) | (intros; omega) | decide, ?_⟩
      refine hK _ ?_
      clear hK K
      repeat first | refine thenN ?_ | refine thenX ?_ | refine thenR ?_ | refine blockN ?_ | refine blockR ?_ | refine blockX ?_ | refine blockM rfl ?_
      have hw : IntKind.i64.wrap ((k : Int) + 1) = (k : Int) + 1 := by rw [wrap_i64] <;> omega
      skip
      refine ⟨_, h12, hs, ?_, ?_⟩
      · first | exact trivial | (simp; omega) | simp
      · simp [Weak, TW, hw, encSer_eq, encIsss_eq, encIss_eq] <;> omega
  · try simp at h12
    obtain rfl : k = s.iss.length := by omega
    simp [fndI] at hs
    refine AWp.exit ?_
    repeat first | refine thenN ?_ | refine thenX ?_ | refine thenR ?_ | refine blockN ?_ | refine blockR ?_ | refine blockX ?_ | refine blockM rfl ?_
    -- region 6
    refine AWp.rseq E_ok [0, 1, 2, 3, 6, 7, 12, 31] fun K hK => ?_
    simp [encSer_eq, encIsss_eq, encIss_eq, h12]
    repeat refine ⟨by first | omega | assumption | (simp only [maxLen]; omega) | (intros; omega) | decide, ?_⟩
    refine hK _ ?_
    clear hK K
    refine AWp.ret ?_
    repeat first | refine thenN ?_ | refine thenX ?_ | refine thenR ?_ | refine blockN ?_ | refine blockR ?_ | refine blockX ?_ | refine blockM rfl ?_
    simp [RetOk, RV, fndR, ← hs, hi]
end Go.Proofs.Ytceapemkefaicaa

set_option maxRecDepth 100000
set_option linter.unusedSimpArgs false
set_option linter.unusedVariables false
namespace Go.Proofs.Ytceapemkefaicaa
open Go Ab Pl
theorem ref37_known (s : Ser) (it : Int) (hl : s.iss.length ≤ 1000) : ACalls E.P 54 [encSer s, .int .i64 it] (.d (.bool (hasIt s.iss it))) := by
  refine ACalls.intro E_ok Try.func54 rfl rfl Try.ntmps54 Try.results54 (Nat.le_of_ble_eq_true rfl) fun hok base S0 w0 => ?_
  -- region 0
  refine AWp.rseq E_ok [0, 1, 2, 4, 5, 10, 20] fun K hK => ?_
  simp [encSer_eq, encIsss_eq, encIss_eq]
  repeat refine ⟨by first | omega | assumption | (simp only [maxLen]; omega) | (intros; omega) | decide, ?_⟩
  refine hK _ ?_
  clear hK K
  refine AWp.seq ?_
  -- region 1
  refine AWp.rseq E_ok [0, 1, 2, 4, 5, 10, 20] fun K hK => ?_
  simp [encSer_eq, encIsss_eq, encIss_eq]
  repeat refine ⟨by first | omega | assumption | (simp only [maxLen]; omega) | (intros; omega) | decide, ?_⟩
  refine hK _ ?_
  clear hK K
  refine AWp.block ?_
  refine AWp.range (l := s.iss) (F := hasF' it) (tot := hasF' it () s.iss) (fun k y => match y with | () => True) (fun k y => match y with | () => [(0, T.val (D.agg [D.int IntKind.i64 s.rcd, D.int IntKind.i64 s.pat.start, D.int IntKind.i64 s.pat.every, D.int IntKind.i64 s.pat.per, D.int IntKind.i64 s.pat.first, encInts s.pat.skip, encInts s.pat.dbl, D.int IntKind.i64 s.next, (D.agg [D.int IntKind.i64 zIss.vol, D.int IntKind.i64 zIss.num, D.int IntKind.i64 zIss.last, D.int IntKind.i64 zIss.day, D.int IntKind.i64 zIss.st, D.int IntKind.i64 zIss.item]).slice (List.map encIss s.iss)])), (1, T.val (D.int IntKind.i64 it)), (2, T.box [C.d (D.int IntKind.i64 s.rcd), C.d (D.int IntKind.i64 s.pat.start), C.d (D.int IntKind.i64 s.pat.every), C.d (D.int IntKind.i64 s.pat.per), C.d (D.int IntKind.i64 s.pat.first), C.d (encInts s.pat.skip), C.d (encInts s.pat.dbl), C.d (D.int IntKind.i64 s.next), C.d ((D.agg [D.int IntKind.i64 zIss.vol, D.int IntKind.i64 zIss.num, D.int IntKind.i64 zIss.last, D.int IntKind.i64 zIss.day, D.int IntKind.i64 zIss.st, D.int IntKind.i64 zIss.item]).slice (List.map encIss s.iss))]), (5, T.val (.int .i64 k))]) () ?_ rfl ?_ ?_
  · simp [Weak, TW, encSer_eq, encIsss_eq, encIss_eq]
  · first | exact trivial | (simp; omega) | simp
  rintro k ⟨⟩ hk hs hi
  try simp only at hi
  refine AWp.seq ?_
  -- region 2
  refine AWp.rseq E_ok [0, 1, 2, 4, 5, 10, 20] fun K hK => ?_
  simp [encSer_eq, encIsss_eq, encIss_eq]
  repeat refine ⟨by first | omega | assumption | (simp only [maxLen]; omega) | (intros; omega) | decide, ?_⟩
  refine hK _ ?_
  clear hK K
  refine AWp.cond rfl (fun h10 => ?_) (fun h10 => ?_)
  · try simp at h10
    obtain ⟨x, hx, hxx, hd⟩ := at_indexG (l := s.iss) h10
    rw [hd] at hs
    refine AWp.skip ?_
    repeat first | refine thenN ?_ | refine thenX ?_ | refine thenR ?_ | refine blockN ?_ | refine blockR ?_ | refine blockX ?_ | refine blockM rfl ?_
    refine AWp.seq ?_
    refine AWp.block ?_
    -- region 4
    refine AWp.rseq E_ok [0, 1, 2, 4, 5, 10, 20] fun K hK => ?_
    simp [encSer_eq, encIsss_eq, encIss_eq, h10, hx, hxx]
    repeat refine ⟨by first | omega | assumption | (simp only [maxLen]; omega) | (intros; omega) | decide, ?_⟩
    refine hK _ ?_
    clear hK K
    refine AWp.cond rfl (fun h20 => ?_) (fun h20 => ?_)
    · try simp at h20
      rw [hasF', if_pos h20] at hs
      -- region 5
      refine AWp.rseq E_ok [0, 1, 2, 4, 5, 10, 20] fun K hK => ?_
      simp [encSer_eq, encIsss_eq, encIss_eq, h10, hx, hxx]
      repeat refine ⟨by first | omega | assumption | (simp only [maxLen]; omega) | (intros; omega) | decide, ?_⟩
      refine hK _ ?_
      clear hK K
      refine AWp.ret ?_
      repeat first | refine thenN ?_ | refine thenX ?_ | refine thenR ?_ | refine blockN ?_ | refine blockR ?_ | refine blockX ?_ | refine blockM rfl ?_
      rw [hasF'_eq] at hs; simp [RetOk, RV, ← hs]
    · try simp at h20
      rw [hasF', if_neg (by omega)] at hs
      refine AWp.skip ?_
      repeat first | refine thenN ?_ | refine thenX ?_ | refine thenR ?_ | refine blockN ?_ | refine blockR ?_ | refine blockX ?_ | refine blockM rfl ?_
      -- region 3
      refine AWp.rend E_ok [0, 1, 2, 4, 5, 10, 20] fun K hK => ?_
      simp [encSer_eq, encIsss_eq, encIss_eq, h10, hx, hxx]
      repeat refine ⟨by first | omega | assumption | (simp only [maxLen]; omega) | (intros; omega) | decide, ?_⟩
      refine hK _ ?_
      clear hK K
      repeat first | refine thenN ?_ | refine thenX ?_ | refine thenR ?_ | refine blockN ?_ | refine blockR ?_ | refine blockX ?_ | refine blockM rfl ?_
      have hw : IntKind.i64.wrap ((k : Int) + 1) = (k : Int) + 1 := by rw [wrap_i64] <;> omega
      skip
      refine ⟨_, h10, hs, ?_, ?_⟩
      · first | exact trivial | (simp; omega) | simp
      · simp [Weak, TW, hw, encSer_eq, encIsss_eq, encIss_eq]
  · try simp at h10
    obtain rfl : k = s.iss.length := by omega
    simp [hasF'] at hs
    refine AWp.exit ?_
    repeat first | refine thenN ?_ | refine thenX ?_ | refine thenR ?_ | refine blockN ?_ | refine blockR ?_ | refine blockX ?_ | refine blockM rfl ?_
    -- region 6
    refine AWp.rseq E_ok [0, 1, 2, 4, 5, 10, 20] fun K hK => ?_
    simp [encSer_eq, encIsss_eq, encIss_eq, h10]
    repeat refine ⟨by first | omega | assumption | (simp only [maxLen]; omega) | (intros; omega) | decide, ?_⟩
    refine hK _ ?_
    clear hK K
    refine AWp.ret ?_
    repeat first | refine thenN ?_ | refine thenX ?_ | refine thenR ?_ | refine blockN ?_ | refine blockR ?_ | refine blockX ?_ | refine blockM rfl ?_
    rw [hasF'_eq] at hs; simp [RetOk, RV, ← hs]
end Go.Proofs.Ytceapemkefaicaa

set_option maxRecDepth 100000
set_option linter.unusedSimpArgs false
set_option linter.unusedVariables false
namespace Go.Proofs.Ytceapemkefaicaa
open Go Ab Pl
theorem ref37_changed (x : Iss) (st it : Int) : ACalls E.P 56 [encIss x, .int .i64 st, .int .i64 it] (.d (encIss { x with st := st, item := it })) := by
  refine ACalls.intro E_ok Try.func56 rfl rfl Try.ntmps56 Try.results56 (Nat.le_of_ble_eq_true rfl) fun hok base S0 w0 => ?_
  -- region 0
  refine AWp.rseq E_ok [0, 1, 2, 3, 6] fun K hK => ?_
  simp [encIss_eq]
  repeat refine ⟨by first | omega | assumption | (simp only [maxLen]; omega) | (intros; omega) | decide, ?_⟩
  refine hK _ ?_
  clear hK K
  -- region 1
  refine AWp.rseq E_ok [0, 1, 2, 3, 6] fun K hK => ?_
  simp [encIss_eq]
  repeat refine ⟨by first | omega | assumption | (simp only [maxLen]; omega) | (intros; omega) | decide, ?_⟩
  refine hK _ ?_
  clear hK K
  refine AWp.ret ?_
  repeat first | refine thenN ?_ | refine thenX ?_ | refine thenR ?_ | refine blockN ?_ | refine blockR ?_ | refine blockX ?_ | refine blockM rfl ?_
  simp [RetOk, RV, encIss_eq]
end Go.Proofs.Ytceapemkefaicaa

set_option maxRecDepth 100000
set_option linter.unusedSimpArgs false
set_option linter.unusedVariables false
namespace Go.Proofs.Ytceapemkefaicaa
open Go Ab Pl
theorem ref37_with (s : Ser) (l : List Iss) (hl : l.length ≤ 1000000) : ACalls E.P 50 [encSer s, encIsss l] (.d (encSer ⟨s.rcd, s.pat, (l.length : Int), l⟩)) := by
  refine ACalls.intro E_ok Try.func50 rfl rfl Try.ntmps50 Try.results50 (Nat.le_of_ble_eq_true rfl) fun hok base S0 w0 => ?_
  -- region 0
  refine AWp.rseq E_ok [0, 1, 2, 4] fun K hK => ?_
  simp [encSer_eq, encIsss_eq]
  repeat refine ⟨by first | omega | assumption | (simp only [maxLen]; omega) | (intros; omega) | decide, ?_⟩
  refine hK _ ?_
  clear hK K
  -- region 1
  refine AWp.rseq E_ok [0, 1, 2, 4] fun K hK => ?_
  simp [encSer_eq, encIsss_eq]
  repeat refine ⟨by first | omega | assumption | (simp only [maxLen]; omega) | (intros; omega) | decide, ?_⟩
  refine hK _ ?_
  clear hK K
  refine AWp.ret ?_
  repeat first | refine thenN ?_ | refine thenX ?_ | refine thenR ?_ | refine blockN ?_ | refine blockR ?_ | refine blockX ?_ | refine blockM rfl ?_
  simp [RetOk, RV, encSer_eq, encIsss_eq]
end Go.Proofs.Ytceapemkefaicaa

set_option maxRecDepth 100000
set_option linter.unusedSimpArgs false
set_option linter.unusedVariables false
namespace Go.Proofs.Ytceapemkefaicaa
open Go Ab Pl
theorem ref37_Bind (s : Ser) (v it : Int) (hl : s.iss.length ≤ 1000) (hnx : s.next = (s.iss.length : Int)) : ACalls E.P 32 [encSer s, .int .i64 v, .int .i64 it] (.tup [encSer (bindR s v it).1, .int .i64 (bindR s v it).2]) := by
  refine ACalls.intro E_ok Try.func32 rfl rfl Try.ntmps32 Try.results32 (Nat.le_of_ble_eq_true rfl) fun hok base S0 w0 => ?_
  have hf := fndR_rng s.iss v s.pat.per
  have q1 := bnd_cnt1 v s.iss
  have q2 := bnd_cnt2 v s.iss
  have q3 := bnd_cnt3 v s.iss
  have q4 := bnd_rng v s.iss
  -- region 0
  refine AWp.rseq E_ok [0, 1, 2, 3, 6, 7, 8, 9, 11, 12, 13, 14, 28, 45, 52, 56, 63, 79] fun K hK => ?_
  simp [encSer_eq, encIsss_eq, encIss_eq, zIss]
  try simp (disch := omega) only [wrap_i64]
  repeat refine ⟨by first | omega | assumption | (simp only [maxLen]; omega) | (intros; omega) | decide, ?_⟩
  refine hK _ ?_
  clear hK K
  -- region 1
  refine AWp.rseq E_ok [0, 1, 2, 3, 6, 7, 8, 9, 11, 12, 13, 14, 28, 45, 52, 56, 63, 79] fun K hK => ?_
  simp [encSer_eq, encIsss_eq, encIss_eq, zIss]
  try simp (disch := omega) only [wrap_i64]
  repeat refine ⟨by first | omega | assumption | (simp only [maxLen]; omega) | (intros; omega) | decide, ?_⟩
  refine meet.of (ref37_count s v 2 5 (by omega)) ?_
  simp [encSer_eq, encIsss_eq, encIss_eq, zIss]
  try simp (disch := omega) only [wrap_i64]
  repeat refine ⟨by first | omega | assumption | (simp only [maxLen]; omega) | (intros; omega) | decide, ?_⟩
  refine hK _ ?_
  clear hK K
  -- region 2
  refine AWp.rseq E_ok [0, 1, 2, 3, 6, 7, 8, 9, 11, 12, 13, 14, 28, 45, 52, 56, 63, 79] fun K hK => ?_
  simp [encSer_eq, encIsss_eq, encIss_eq, zIss]
  try simp (disch := omega) only [wrap_i64]
  repeat refine ⟨by first | omega | assumption | (simp only [maxLen]; omega) | (intros; omega) | decide, ?_⟩
  refine meet.of (ref37_count s v 2 2 (by omega)) ?_
  simp [encSer_eq, encIsss_eq, encIss_eq, zIss]
  try simp (disch := omega) only [wrap_i64]
  repeat refine ⟨by first | omega | assumption | (simp only [maxLen]; omega) | (intros; omega) | decide, ?_⟩
  refine hK _ ?_
  clear hK K
  refine AWp.seq ?_
  -- region 3
  refine AWp.rseq E_ok [0, 1, 2, 3, 6, 7, 8, 9, 11, 12, 13, 14, 28, 45, 52, 56, 63, 79] fun K hK => ?_
  simp [encSer_eq, encIsss_eq, encIss_eq, zIss]
  try simp (disch := omega) only [wrap_i64]
  repeat refine ⟨by first | omega | assumption | (simp only [maxLen]; omega) | (intros; omega) | decide, ?_⟩
  refine hK _ ?_
  clear hK K
  refine AWp.cond rfl (fun h28 => ?_) (fun h28 => ?_)
  · try simp at h28
    have hb : bindR s v it = (zSer, 9) := by unfold bindR; rw [if_pos (by omega)]
    -- region 4
    refine AWp.rseq E_ok [0, 1, 2, 3, 6, 7, 8, 9, 11, 12, 13, 14, 28, 45, 52, 56, 63, 79] fun K hK => ?_
    simp [encSer_eq, encIsss_eq, encIss_eq, zIss]
    try simp (disch := omega) only [wrap_i64]
    repeat refine ⟨by first | omega | assumption | (simp only [maxLen]; omega) | (intros; omega) | decide, ?_⟩
    refine hK _ ?_
    clear hK K
    refine AWp.ret ?_
    repeat first | refine thenN ?_ | refine thenX ?_ | refine thenR ?_ | refine blockN ?_ | refine blockR ?_ | refine blockX ?_ | refine blockM rfl ?_
    first | (simp [RetOk, RV, RVs, hb, zSer, zPat, encSer_eq, encInts_eq, encIsss_eq, encIss_eq, zIss, hnx]; done) | (simp [RetOk, RV, RVs, hb, zSer, zPat, encSer_eq, encInts_eq, encIsss_eq, encIss_eq, zIss, hnx, hs])
  · try simp at h28
    refine AWp.skip ?_
    repeat first | refine thenN ?_ | refine thenX ?_ | refine thenR ?_ | refine blockN ?_ | refine blockR ?_ | refine blockX ?_ | refine blockM rfl ?_
    refine AWp.seq ?_
    -- region 5
    refine AWp.rseq E_ok [0, 1, 2, 3, 6, 7, 8, 9, 11, 12, 13, 14, 28, 45, 52, 56, 63, 79] fun K hK => ?_
    simp [encSer_eq, encIsss_eq, encIss_eq, zIss]
    try simp (disch := omega) only [wrap_i64]
    repeat refine ⟨by first | omega | assumption | (simp only [maxLen]; omega) | (intros; omega) | decide, ?_⟩
    refine meet.of (ref37_find s v s.pat.per (by omega)) ?_
    simp [encSer_eq, encIsss_eq, encIss_eq, zIss]
    try simp (disch := omega) only [wrap_i64]
    repeat refine ⟨by first | omega | assumption | (simp only [maxLen]; omega) | (intros; omega) | decide, ?_⟩
    refine hK _ ?_
    clear hK K
    refine AWp.cond rfl (fun h45 => ?_) (fun h45 => ?_)
    · try simp at h45
      have hb : bindR s v it = (zSer, 12) := by unfold bindR; rw [if_neg (by omega), if_pos (by omega)]
      -- region 6
      refine AWp.rseq E_ok [0, 1, 2, 3, 6, 7, 8, 9, 11, 12, 13, 14, 28, 45, 52, 56, 63, 79] fun K hK => ?_
      simp [encSer_eq, encIsss_eq, encIss_eq, zIss]
      try simp (disch := omega) only [wrap_i64]
      repeat refine ⟨by first | omega | assumption | (simp only [maxLen]; omega) | (intros; omega) | decide, ?_⟩
      refine hK _ ?_
      clear hK K
      refine AWp.ret ?_
      repeat first | refine thenN ?_ | refine thenX ?_ | refine thenR ?_ | refine blockN ?_ | refine blockR ?_ | refine blockX ?_ | refine blockM rfl ?_
      first | (simp [RetOk, RV, RVs, hb, zSer, zPat, encSer_eq, encInts_eq, encIsss_eq, encIss_eq, zIss, hnx]; done) | (simp [RetOk, RV, RVs, hb, zSer, zPat, encSer_eq, encInts_eq, encIsss_eq, encIss_eq, zIss, hnx, hs])
    · try simp at h45
      refine AWp.skip ?_
      repeat first | refine thenN ?_ | refine thenX ?_ | refine thenR ?_ | refine blockN ?_ | refine blockR ?_ | refine blockX ?_ | refine blockM rfl ?_
      refine AWp.seq ?_
      -- region 7
      refine AWp.rseq E_ok [0, 1, 2, 3, 6, 7, 8, 9, 11, 12, 13, 14, 28, 45, 52, 56, 63, 79] fun K hK => ?_
      simp [encSer_eq, encIsss_eq, encIss_eq, zIss]
      try simp (disch := omega) only [wrap_i64]
      repeat refine ⟨by first | omega | assumption | (simp only [maxLen]; omega) | (intros; omega) | decide, ?_⟩
      refine hK _ ?_
      clear hK K
      refine AWp.cond rfl (fun h52 => ?_) (fun h52 => ?_)
      · try simp at h52
        have hb : bindR s v it = (zSer, 2) := by unfold bindR; rw [if_neg (by omega), if_neg (by omega), show itemR s.iss it = 2 from if_pos (by omega), if_pos (by decide)]
        -- region 8
        refine AWp.rseq E_ok [0, 1, 2, 3, 6, 7, 8, 9, 11, 12, 13, 14, 28, 45, 52, 56, 63, 79] fun K hK => ?_
        simp [encSer_eq, encIsss_eq, encIss_eq, zIss]
        try simp (disch := omega) only [wrap_i64]
        repeat refine ⟨by first | omega | assumption | (simp only [maxLen]; omega) | (intros; omega) | decide, ?_⟩
        refine hK _ ?_
        clear hK K
        refine AWp.ret ?_
        repeat first | refine thenN ?_ | refine thenX ?_ | refine thenR ?_ | refine blockN ?_ | refine blockR ?_ | refine blockX ?_ | refine blockM rfl ?_
        first | (simp [RetOk, RV, RVs, hb, zSer, zPat, encSer_eq, encInts_eq, encIsss_eq, encIss_eq, zIss, hnx]; done) | (simp [RetOk, RV, RVs, hb, zSer, zPat, encSer_eq, encInts_eq, encIsss_eq, encIss_eq, zIss, hnx, hs])
      · try simp at h52
        refine AWp.skip ?_
        repeat first | refine thenN ?_ | refine thenX ?_ | refine thenR ?_ | refine blockN ?_ | refine blockR ?_ | refine blockX ?_ | refine blockM rfl ?_
        refine AWp.seq ?_
        -- region 9
        refine AWp.rseq E_ok [0, 1, 2, 3, 6, 7, 8, 9, 11, 12, 13, 14, 28, 45, 52, 56, 63, 79] fun K hK => ?_
        simp [encSer_eq, encIsss_eq, encIss_eq, zIss]
        try simp (disch := omega) only [wrap_i64]
        repeat refine ⟨by first | omega | assumption | (simp only [maxLen]; omega) | (intros; omega) | decide, ?_⟩
        refine meet.of (ref37_known s it (by omega)) ?_
        simp [encSer_eq, encIsss_eq, encIss_eq, zIss]
        try simp (disch := omega) only [wrap_i64]
        repeat refine ⟨by first | omega | assumption | (simp only [maxLen]; omega) | (intros; omega) | decide, ?_⟩
        refine hK _ ?_
        clear hK K
        refine AWp.cond rfl (fun h56 => ?_) (fun h56 => ?_)
        · try simp at h56
          have hb : bindR s v it = (zSer, 7) := by unfold bindR; rw [if_neg (by omega), if_neg (by omega), show itemR s.iss it = 7 by unfold itemR; rw [if_neg (by omega), if_pos h56], if_pos (by decide)]
          -- region 10
          refine AWp.rseq E_ok [0, 1, 2, 3, 6, 7, 8, 9, 11, 12, 13, 14, 28, 45, 52, 56, 63, 79] fun K hK => ?_
          simp [encSer_eq, encIsss_eq, encIss_eq, zIss]
          try simp (disch := omega) only [wrap_i64]
          repeat refine ⟨by first | omega | assumption | (simp only [maxLen]; omega) | (intros; omega) | decide, ?_⟩
          refine hK _ ?_
          clear hK K
          refine AWp.ret ?_
          repeat first | refine thenN ?_ | refine thenX ?_ | refine thenR ?_ | refine blockN ?_ | refine blockR ?_ | refine blockX ?_ | refine blockM rfl ?_
          first | (simp [RetOk, RV, RVs, hb, zSer, zPat, encSer_eq, encInts_eq, encIsss_eq, encIss_eq, zIss, hnx]; done) | (simp [RetOk, RV, RVs, hb, zSer, zPat, encSer_eq, encInts_eq, encIsss_eq, encIss_eq, zIss, hnx, hs])
        · try simp at h56
          have hb : bindR s v it = (⟨s.rcd, s.pat, s.next, s.iss.map (bnd v it)⟩, 0) := by unfold bindR; rw [if_neg (by omega), if_neg (by omega), show itemR s.iss it = 0 by unfold itemR; rw [if_neg (by omega), if_neg (by rw [h56]; decide)], if_neg (by decide)]
          refine AWp.skip ?_
          repeat first | refine thenN ?_ | refine thenX ?_ | refine thenR ?_ | refine blockN ?_ | refine blockR ?_ | refine blockX ?_ | refine blockM rfl ?_
          -- region 11
          refine AWp.rseq E_ok [0, 1, 2, 3, 6, 7, 8, 9, 11, 12, 13, 14, 28, 45, 52, 56, 63, 79] fun K hK => ?_
          simp [encSer_eq, encIsss_eq, encIss_eq, zIss]
          try simp (disch := omega) only [wrap_i64]
          repeat refine ⟨by first | omega | assumption | (simp only [maxLen]; omega) | (intros; omega) | decide, ?_⟩
          refine hK _ ?_
          clear hK K
          refine AWp.seq ?_
          -- region 12
          refine AWp.rseq E_ok [0, 1, 2, 3, 6, 7, 8, 9, 11, 12, 13, 14, 28, 45, 52, 56, 63, 79] fun K hK => ?_
          simp [encSer_eq, encIsss_eq, encIss_eq, zIss]
          try simp (disch := omega) only [wrap_i64]
          repeat refine ⟨by first | omega | assumption | (simp only [maxLen]; omega) | (intros; omega) | decide, ?_⟩
          refine hK _ ?_
          clear hK K
          refine AWp.block ?_
          refine AWp.range (l := s.iss) (F := bndG v it) (tot := bndG v it [] s.iss) (fun k y => match y with | L => L.length = k) (fun k y => match y with | L => [(0, T.val (D.agg [D.int IntKind.i64 s.rcd, D.int IntKind.i64 s.pat.start, D.int IntKind.i64 s.pat.every, D.int IntKind.i64 s.pat.per, D.int IntKind.i64 s.pat.first, encInts s.pat.skip, encInts s.pat.dbl, D.int IntKind.i64 s.next, (D.agg [D.int IntKind.i64 0, D.int IntKind.i64 0, D.int IntKind.i64 0, D.int IntKind.i64 0, D.int IntKind.i64 0, D.int IntKind.i64 0]).slice (List.map encIss s.iss)])), (1, T.val (D.int IntKind.i64 v)), (2, T.val (D.int IntKind.i64 it)), (3, T.box [C.d (D.int IntKind.i64 s.rcd), C.d (D.int IntKind.i64 s.pat.start), C.d (D.int IntKind.i64 s.pat.every), C.d (D.int IntKind.i64 s.pat.per), C.d (D.int IntKind.i64 s.pat.first), C.d (encInts s.pat.skip), C.d (encInts s.pat.dbl), C.d (D.int IntKind.i64 s.next), C.d ((D.agg [D.int IntKind.i64 0, D.int IntKind.i64 0, D.int IntKind.i64 0, D.int IntKind.i64 0, D.int IntKind.i64 0, D.int IntKind.i64 0]).slice (List.map encIss s.iss))]), (6, T.box [C.d (D.int IntKind.i64 0), C.d (D.int IntKind.i64 0), C.d (D.int IntKind.i64 0), C.d (D.int IntKind.i64 0), C.d (D.int IntKind.i64 0), C.d ((D.int IntKind.i64 0).slice []), C.d ((D.int IntKind.i64 0).slice []), C.d (D.int IntKind.i64 0), C.d ((D.agg [D.int IntKind.i64 0, D.int IntKind.i64 0, D.int IntKind.i64 0, D.int IntKind.i64 0, D.int IntKind.i64 0, D.int IntKind.i64 0]).slice [])]), (12, T.own true (encIss zIss) (L.map encIss)), (13, T.val (.int .i64 k))]) ([]) ?_ rfl ?_ ?_
          · simp [Weak, TW, encSer_eq, encIsss_eq, encIss_eq, zIss]
          · rfl
          rintro k L hk hs hi
          try simp only at hi
          refine AWp.seq ?_
          -- region 13
          refine AWp.rseq E_ok [0, 1, 2, 3, 6, 7, 8, 9, 11, 12, 13, 14, 28, 45, 52, 56, 63, 79] fun K hK => ?_
          simp [encSer_eq, encIsss_eq, encIss_eq, zIss]
          try simp (disch := omega) only [wrap_i64]
          repeat refine ⟨by first | omega | assumption | (simp only [maxLen]; omega) | (intros; omega) | decide, ?_⟩
          refine hK _ ?_
          clear hK K
          refine AWp.cond rfl (fun h63 => ?_) (fun h63 => ?_)
          · try simp at h63
            obtain ⟨x, hx, hxx, hd⟩ := at_indexG (l := s.iss) h63
            rw [hd] at hs
            refine AWp.skip ?_
            repeat first | refine thenN ?_ | refine thenX ?_ | refine thenR ?_ | refine blockN ?_ | refine blockR ?_ | refine blockX ?_ | refine blockM rfl ?_
            refine AWp.seq ?_
            refine AWp.block ?_
            -- region 15
            refine AWp.rseq E_ok [0, 1, 2, 3, 6, 7, 8, 9, 11, 12, 13, 14, 28, 45, 52, 56, 63, 79] fun K hK => ?_
            simp [encSer_eq, encIsss_eq, encIss_eq, zIss, h63, hx, hxx]
            try simp (disch := omega) only [wrap_i64]
            repeat refine ⟨by first | omega | assumption | (simp only [maxLen]; omega) | (intros; omega) | decide, ?_⟩
            refine hK _ ?_
            clear hK K
            refine AWp.seq ?_
            -- region 16
            refine AWp.rseq E_ok [0, 1, 2, 3, 6, 7, 8, 9, 11, 12, 13, 14, 28, 45, 52, 56, 63, 79] fun K hK => ?_
            simp [encSer_eq, encIsss_eq, encIss_eq, zIss, h63, hx, hxx]
            try simp (disch := omega) only [wrap_i64]
            repeat refine ⟨by first | omega | assumption | (simp only [maxLen]; omega) | (intros; omega) | decide, ?_⟩
            refine hK _ ?_
            clear hK K
            refine AWp.cond rfl (fun h79 => ?_) (fun h79 => ?_)
            · try simp at h79
              have hcl : bnd v it x = { x with st := 4, item := it } := if_pos h79
              rw [bndG, hcl] at hs
              -- region 17
              refine AWp.rend E_ok [0, 1, 2, 3, 6, 7, 8, 9, 11, 12, 13, 14, 28, 45, 52, 56, 63, 79] fun K hK => ?_
              simp [encSer_eq, encIsss_eq, encIss_eq, zIss, h63, hx, hxx]
              try simp (disch := omega) only [wrap_i64]
              repeat refine ⟨by first | omega | assumption | (simp only [maxLen]; omega) | (intros; omega) | decide, ?_⟩
              refine meet.of (ref37_changed x 4 it) ?_
              simp [encSer_eq, encIsss_eq, encIss_eq, zIss, h63, hx, hxx]
              try simp (disch := omega) only [wrap_i64]
              repeat refine ⟨by first | omega | assumption | (simp only [maxLen]; omega) | (intros; omega) | decide, ?_⟩
              refine hK _ ?_
              clear hK K
              repeat first | refine thenN ?_ | refine thenX ?_ | refine thenR ?_ | refine blockN ?_ | refine blockR ?_ | refine blockX ?_ | refine blockM rfl ?_
              -- region 18
              refine AWp.rend E_ok [0, 1, 2, 3, 6, 7, 8, 9, 11, 12, 13, 14, 28, 45, 52, 56, 63, 79] fun K hK => ?_
              simp [encSer_eq, encIsss_eq, encIss_eq, zIss, h63, hx, hxx]
              try simp (disch := omega) only [wrap_i64]
              repeat refine ⟨by first | omega | assumption | (simp only [maxLen]; omega) | (intros; omega) | decide, ?_⟩
              refine hK _ ?_
              clear hK K
              repeat first | refine thenN ?_ | refine thenX ?_ | refine thenR ?_ | refine blockN ?_ | refine blockR ?_ | refine blockX ?_ | refine blockM rfl ?_
              -- region 14
              refine AWp.rend E_ok [0, 1, 2, 3, 6, 7, 8, 9, 11, 12, 13, 14, 28, 45, 52, 56, 63, 79] fun K hK => ?_
              simp [encSer_eq, encIsss_eq, encIss_eq, zIss, h63, hx, hxx]
              try simp (disch := omega) only [wrap_i64]
              repeat refine ⟨by first | omega | assumption | (simp only [maxLen]; omega) | (intros; omega) | decide, ?_⟩
              refine hK _ ?_
              clear hK K
              repeat first | refine thenN ?_ | refine thenX ?_ | refine thenR ?_ | refine blockN ?_ | refine blockR ?_ | refine blockX ?_ | refine blockM rfl ?_
              have hw : IntKind.i64.wrap ((k : Int) + 1) = (k : Int) + 1 := by rw [wrap_i64] <;> omega
              skip
              refine ⟨_, h63, hs, ?_, ?_⟩
              · simp only [List.length_append, List.length_singleton]; omega
              · simp [Weak, TW, hw, encSer_eq, encIsss_eq, encIss_eq, zIss] <;> omega
            · try simp at h79
              have hcl : bnd v it x = x := if_neg (by omega)
              rw [bndG, hcl] at hs
              refine AWp.skip ?_
              repeat first | refine thenN ?_ | refine thenX ?_ | refine thenR ?_ | refine blockN ?_ | refine blockR ?_ | refine blockX ?_ | refine blockM rfl ?_
              -- region 18
              refine AWp.rend E_ok [0, 1, 2, 3, 6, 7, 8, 9, 11, 12, 13, 14, 28, 45, 52, 56, 63, 79] fun K hK => ?_
              simp [encSer_eq, encIsss_eq, encIss_eq, zIss, h63, hx, hxx]
              try simp (disch := omega) only [wrap_i64]
              repeat refine ⟨by first | omega | assumption | (simp only [maxLen]; omega) | (intros; omega) | decide, ?_⟩
              refine hK _ ?_
              clear hK K
              repeat first | refine thenN ?_ | refine thenX ?_ | refine thenR ?_ | refine blockN ?_ | refine blockR ?_ | refine blockX ?_ | refine blockM rfl ?_
              -- region 14
              refine AWp.rend E_ok [0, 1, 2, 3, 6, 7, 8, 9, 11, 12, 13, 14, 28, 45, 52, 56, 63, 79] fun K hK => ?_
              simp [encSer_eq, encIsss_eq, encIss_eq, zIss, h63, hx, hxx]
              try simp (disch := omega) only [wrap_i64]
              repeat refine ⟨by first | omega | assumption | (simp only [maxLen]; omega) | (intros; omega) | decide, ?_⟩
              refine hK _ ?_
              clear hK K
              repeat first | refine thenN ?_ | refine thenX ?_ | refine thenR ?_ | refine blockN ?_ | refine blockR ?_ | refine blockX ?_ | refine blockM rfl ?_
              have hw : IntKind.i64.wrap ((k : Int) + 1) = (k : Int) + 1 := by rw [wrap_i64] <;> omega
              skip
              refine ⟨_, h63, hs, ?_, ?_⟩
              · simp only [List.length_append, List.length_singleton]; omega
              · simp [Weak, TW, hw, encSer_eq, encIsss_eq, encIss_eq, zIss] <;> omega
          · try simp at h63
            obtain rfl : k = s.iss.length := by omega
            simp only [List.drop_length, bndG] at hs
            rw [bndG_eq, List.nil_append] at hs
            refine AWp.exit ?_
            repeat first | refine thenN ?_ | refine thenX ?_ | refine thenR ?_ | refine blockN ?_ | refine blockR ?_ | refine blockX ?_ | refine blockM rfl ?_
            -- region 19
            refine AWp.rseq E_ok [0, 1, 2, 3, 6, 7, 8, 9, 11, 12, 13, 14, 28, 45, 52, 56, 63, 79] fun K hK => ?_
            simp [encSer_eq, encIsss_eq, encIss_eq, zIss, h63]
            try simp (disch := omega) only [wrap_i64]
            repeat refine ⟨by first | omega | assumption | (simp only [maxLen]; omega) | (intros; omega) | decide, ?_⟩
            refine meet.of (ref37_with s L (by omega)) ?_
            simp [encSer_eq, encIsss_eq, encIss_eq, zIss, h63]
            try simp (disch := omega) only [wrap_i64]
            repeat refine ⟨by first | omega | assumption | (simp only [maxLen]; omega) | (intros; omega) | decide, ?_⟩
            refine hK _ ?_
            clear hK K
            refine AWp.ret ?_
            repeat first | refine thenN ?_ | refine thenX ?_ | refine thenR ?_ | refine blockN ?_ | refine blockR ?_ | refine blockX ?_ | refine blockM rfl ?_
            first | (simp [RetOk, RV, RVs, hb, zSer, zPat, encSer_eq, encInts_eq, encIsss_eq, encIss_eq, zIss, hnx]; done) | (simp [RetOk, RV, RVs, hb, zSer, zPat, encSer_eq, encInts_eq, encIsss_eq, encIss_eq, zIss, hnx, hs])
end Go.Proofs.Ytceapemkefaicaa

set_option maxRecDepth 100000
set_option linter.unusedSimpArgs false
set_option linter.unusedVariables false
namespace Go.Proofs.Ytceapemkefaicaa
open Go Ab Pl
theorem ref36_Same (a b : List Iss) (hl : a.length ≤ 100000) : ACalls E.P 41 [encIsss a, encIsss b] (.d (.bool (decide (a = b)))) := by
  refine ACalls.intro E_ok Try.func41 rfl rfl Try.ntmps41 Try.results41 (Nat.le_of_ble_eq_true rfl) fun hok base S0 w0 => ?_
  -- region 0
  refine AWp.rseq E_ok [0, 1, 4, 5, 10, 14, 25] fun K hK => ?_
  simp [encIsss_eq, encIss_eq]
  repeat refine ⟨by first | omega | assumption | (simp only [maxLen]; omega) | (intros; omega) | decide, ?_⟩
  refine hK _ ?_
  clear hK K
  refine AWp.seq ?_
  -- region 1
  refine AWp.rseq E_ok [0, 1, 4, 5, 10, 14, 25] fun K hK => ?_
  simp [encIsss_eq, encIss_eq]
  repeat refine ⟨by first | omega | assumption | (simp only [maxLen]; omega) | (intros; omega) | decide, ?_⟩
  refine hK _ ?_
  clear hK K
  refine AWp.cond rfl (fun h10 => ?_) (fun h10 => ?_)
  · try simp at h10
    have hb : decide (a = b) = false := decide_eq_false fun h => h10 (by rw [h])
    -- region 2
    refine AWp.rseq E_ok [0, 1, 4, 5, 10, 14, 25] fun K hK => ?_
    simp [encIsss_eq, encIss_eq]
    repeat refine ⟨by first | omega | assumption | (simp only [maxLen]; omega) | (intros; omega) | decide, ?_⟩
    refine hK _ ?_
    clear hK K
    refine AWp.ret ?_
    repeat first | refine thenN ?_ | refine thenX ?_ | refine thenR ?_ | refine blockN ?_ | refine blockR ?_ | refine blockX ?_ | refine blockM rfl ?_
    simp [RetOk, RV, hb]
  · try simp at h10
    have hle := samF_eq a b (by omega)
    refine AWp.skip ?_
    repeat first | refine thenN ?_ | refine thenX ?_ | refine thenR ?_ | refine blockN ?_ | refine blockR ?_ | refine blockX ?_ | refine blockM rfl ?_
    refine AWp.seq ?_
    -- region 3
    refine AWp.rseq E_ok [0, 1, 4, 5, 10, 14, 25] fun K hK => ?_
    simp [encIsss_eq, encIss_eq]
    repeat refine ⟨by first | omega | assumption | (simp only [maxLen]; omega) | (intros; omega) | decide, ?_⟩
    refine hK _ ?_
    clear hK K
    refine AWp.block ?_
    refine AWp.range (l := a) (F := samF) (tot := samF b a) (fun k y => match y with | bs => bs = b.drop k) (fun k y => match y with | bs => [(0, T.val ((D.agg [D.int IntKind.i64 zIss.vol, D.int IntKind.i64 zIss.num, D.int IntKind.i64 zIss.last, D.int IntKind.i64 zIss.day, D.int IntKind.i64 zIss.st, D.int IntKind.i64 zIss.item]).slice (List.map encIss a))), (1, T.val ((D.agg [D.int IntKind.i64 zIss.vol, D.int IntKind.i64 zIss.num, D.int IntKind.i64 zIss.last, D.int IntKind.i64 zIss.day, D.int IntKind.i64 zIss.st, D.int IntKind.i64 zIss.item]).slice (List.map encIss b))), (5, T.val (.int .i64 k))]) (b) ?_ rfl ?_ ?_
    · simp [Weak, TW, encIsss_eq, encIss_eq]
    · first | exact trivial | (simp; omega) | simp
    rintro k bs hk hs hi
    try simp only at hi
    refine AWp.seq ?_
    -- region 4
    refine AWp.rseq E_ok [0, 1, 4, 5, 10, 14, 25] fun K hK => ?_
    simp [encIsss_eq, encIss_eq]
    repeat refine ⟨by first | omega | assumption | (simp only [maxLen]; omega) | (intros; omega) | decide, ?_⟩
    refine hK _ ?_
    clear hK K
    refine AWp.cond rfl (fun h14 => ?_) (fun h14 => ?_)
    · try simp at h14
      obtain ⟨y, hy1, hy2, hyd⟩ := at_indexG (l := b) (k := k) (by omega)
      rw [hi, hyd] at hs
      obtain ⟨x, hx, hxx, hd⟩ := at_indexG (l := a) h14
      rw [hd] at hs
      refine AWp.skip ?_
      repeat first | refine thenN ?_ | refine thenX ?_ | refine thenR ?_ | refine blockN ?_ | refine blockR ?_ | refine blockX ?_ | refine blockM rfl ?_
      refine AWp.seq ?_
      refine AWp.block ?_
      -- region 6
      refine AWp.rseqQ E_ok mixed [0, 1, 4, 5, 10, 14, 25] (by kernel_rfl) fun K hK => ?_
      simp [encIsss_eq, encIss_eq, h14, hy1, hx, hxx]
      repeat refine ⟨by first | omega | assumption | (simp only [maxLen]; omega) | (intros; omega) | decide, ?_⟩
      refine hK _ ?_
      clear hK K
      refine AWp.cond rfl (fun h25 => ?_) (fun h25 => ?_)
      · try simp at h25
        have hne : ¬ x = y := by rw [iss_eq]; omega
        rw [samF, if_neg hne] at hs
        have hb : decide (a = b) = false := by rw [← hle, ← hs]
        -- region 7
        refine AWp.rseq E_ok [0, 1, 4, 5, 10, 14, 25] fun K hK => ?_
        simp [encIsss_eq, encIss_eq, h14, hy1, hx, hxx]
        repeat refine ⟨by first | omega | assumption | (simp only [maxLen]; omega) | (intros; omega) | decide, ?_⟩
        refine hK _ ?_
        clear hK K
        refine AWp.ret ?_
        repeat first | refine thenN ?_ | refine thenX ?_ | refine thenR ?_ | refine blockN ?_ | refine blockR ?_ | refine blockX ?_ | refine blockM rfl ?_
        simp [RetOk, RV, hb]
      · try simp at h25
        have hxy : x = y := (iss_eq x y).2 (by omega)
        rw [samF, if_pos hxy] at hs
        refine AWp.skip ?_
        repeat first | refine thenN ?_ | refine thenX ?_ | refine thenR ?_ | refine blockN ?_ | refine blockR ?_ | refine blockX ?_ | refine blockM rfl ?_
        -- region 5
        refine AWp.rend E_ok [0, 1, 4, 5, 10, 14, 25] fun K hK => ?_
        simp [encIsss_eq, encIss_eq, h14, hy1, hx, hxx]
        repeat refine ⟨by first | omega | assumption | (simp only [maxLen]; omega) | (intros; omega) | decide, ?_⟩
        refine hK _ ?_
        clear hK K
        repeat first | refine thenN ?_ | refine thenX ?_ | refine thenR ?_ | refine blockN ?_ | refine blockR ?_ | refine blockX ?_ | refine blockM rfl ?_
        have hw : IntKind.i64.wrap ((k : Int) + 1) = (k : Int) + 1 := by rw [wrap_i64] <;> omega
        skip
        refine ⟨_, h14, hs, ?_, ?_⟩
        · first | exact trivial | (simp; omega) | simp
        · simp [Weak, TW, hw, encIsss_eq, encIss_eq]
    · try simp at h14
      obtain rfl : k = a.length := by omega
      simp [samF] at hs
      have hb : decide (a = b) = true := by rw [← hle]; simp [hs]
      refine AWp.exit ?_
      repeat first | refine thenN ?_ | refine thenX ?_ | refine thenR ?_ | refine blockN ?_ | refine blockR ?_ | refine blockX ?_ | refine blockM rfl ?_
      -- region 8
      refine AWp.rseq E_ok [0, 1, 4, 5, 10, 14, 25] fun K hK => ?_
      simp [encIsss_eq, encIss_eq, h14]
      repeat refine ⟨by first | omega | assumption | (simp only [maxLen]; omega) | (intros; omega) | decide, ?_⟩
      refine hK _ ?_
      clear hK K
      refine AWp.ret ?_
      repeat first | refine thenN ?_ | refine thenX ?_ | refine thenR ?_ | refine blockN ?_ | refine blockR ?_ | refine blockX ?_ | refine blockM rfl ?_
      simp [RetOk, RV, hb]
end Go.Proofs.Ytceapemkefaicaa

/- Lists of integers compared. -/
namespace Pl
open Go Ab
set_option linter.unusedVariables false
set_option linter.unusedSimpArgs false
def samZ : List Int → List Int → Bool
  | _, [] => true
  | [], _ :: _ => false
  | y :: b, x :: a => if x = y then samZ b a else false
theorem samZ_eq : ∀ (a b : List Int), a.length = b.length → samZ b a = decide (a = b)
  | [], [], _ => by simp [samZ]
  | x :: a, y :: b, h => by
    rw [samZ, samZ_eq a b (by simpa using h)]
    by_cases hxy : x = y
    · subst hxy; simp
    · simp [hxy]
end Pl

set_option maxRecDepth 100000
set_option linter.unusedSimpArgs false
set_option linter.unusedVariables false
namespace Go.Proofs.Ytceapemkefaicaa
open Go Ab Pl
theorem ref37_same (a b : List Int) (hl : a.length ≤ 100000) : ACalls E.P 70 [encInts a, encInts b] (.d (.bool (decide (a = b)))) := by
  refine ACalls.intro E_ok Try.func70 rfl rfl Try.ntmps70 Try.results70 (Nat.le_of_ble_eq_true rfl) fun hok base S0 w0 => ?_
  -- region 0
  refine AWp.rseq E_ok [0, 1, 4, 5, 10, 14, 25] fun K hK => ?_
  simp [encInts_eq]
  repeat refine ⟨by first | omega | assumption | (simp only [maxLen]; omega) | (intros; omega) | decide, ?_⟩
  refine hK _ ?_
  clear hK K
  refine AWp.seq ?_
  -- region 1
  refine AWp.rseq E_ok [0, 1, 4, 5, 10, 14, 25] fun K hK => ?_
  simp [encInts_eq]
  repeat refine ⟨by first | omega | assumption | (simp only [maxLen]; omega) | (intros; omega) | decide, ?_⟩
  refine hK _ ?_
  clear hK K
  refine AWp.cond rfl (fun h10 => ?_) (fun h10 => ?_)
  · try simp at h10
    have hb : decide (a = b) = false := decide_eq_false fun h => h10 (by rw [h])
    -- region 2
    refine AWp.rseq E_ok [0, 1, 4, 5, 10, 14, 25] fun K hK => ?_
    simp [encInts_eq]
    repeat refine ⟨by first | omega | assumption | (simp only [maxLen]; omega) | (intros; omega) | decide, ?_⟩
    refine hK _ ?_
    clear hK K
    refine AWp.ret ?_
    repeat first | refine thenN ?_ | refine thenX ?_ | refine thenR ?_ | refine blockN ?_ | refine blockR ?_ | refine blockX ?_ | refine blockM rfl ?_
    simp [RetOk, RV, hb]
  · try simp at h10
    have hle := samZ_eq a b (by omega)
    refine AWp.skip ?_
    repeat first | refine thenN ?_ | refine thenX ?_ | refine thenR ?_ | refine blockN ?_ | refine blockR ?_ | refine blockX ?_ | refine blockM rfl ?_
    refine AWp.seq ?_
    -- region 3
    refine AWp.rseq E_ok [0, 1, 4, 5, 10, 14, 25] fun K hK => ?_
    simp [encInts_eq]
    repeat refine ⟨by first | omega | assumption | (simp only [maxLen]; omega) | (intros; omega) | decide, ?_⟩
    refine hK _ ?_
    clear hK K
    refine AWp.block ?_
    refine AWp.range (l := a) (F := samZ) (tot := samZ b a) (fun k y => match y with | bs => bs = b.drop k) (fun k y => match y with | bs => [(0, T.val ((D.int IntKind.i64 0).slice (List.map (D.int IntKind.i64) a))), (1, T.val ((D.int IntKind.i64 0).slice (List.map (D.int IntKind.i64) b))), (5, T.val (.int .i64 k))]) (b) ?_ rfl ?_ ?_
    · simp [Weak, TW, encInts_eq]
    · first | exact trivial | (simp; omega) | simp
    rintro k bs hk hs hi
    try simp only at hi
    refine AWp.seq ?_
    -- region 4
    refine AWp.rseq E_ok [0, 1, 4, 5, 10, 14, 25] fun K hK => ?_
    simp [encInts_eq]
    repeat refine ⟨by first | omega | assumption | (simp only [maxLen]; omega) | (intros; omega) | decide, ?_⟩
    refine hK _ ?_
    clear hK K
    refine AWp.cond rfl (fun h14 => ?_) (fun h14 => ?_)
    · try simp at h14
      obtain ⟨y, hy1, hy2, hyd⟩ := at_indexG (l := b) (k := k) (by omega)
      rw [hi, hyd] at hs
      obtain ⟨x, hx, hxx, hd⟩ := at_indexG (l := a) h14
      rw [hd] at hs
      refine AWp.skip ?_
      repeat first | refine thenN ?_ | refine thenX ?_ | refine thenR ?_ | refine blockN ?_ | refine blockR ?_ | refine blockX ?_ | refine blockM rfl ?_
      refine AWp.seq ?_
      refine AWp.block ?_
      -- region 6
      refine AWp.rseqQ E_ok mixed [0, 1, 4, 5, 10, 14, 25] (by kernel_rfl) fun K hK => ?_
      simp [encInts_eq, h14, hy1, hx, hxx]
      repeat refine ⟨by first | omega | assumption | (simp only [maxLen]; omega) | (intros; omega) | decide, ?_⟩
      refine hK _ ?_
      clear hK K
      refine AWp.cond rfl (fun h25 => ?_) (fun h25 => ?_)
      · try simp at h25
        rw [samZ, if_neg h25] at hs
        have hb : decide (a = b) = false := by rw [← hle, ← hs]
        -- region 7
        refine AWp.rseq E_ok [0, 1, 4, 5, 10, 14, 25] fun K hK => ?_
        simp [encInts_eq, h14, hy1, hx, hxx]
        repeat refine ⟨by first | omega | assumption | (simp only [maxLen]; omega) | (intros; omega) | decide, ?_⟩
        refine hK _ ?_
        clear hK K
        refine AWp.ret ?_
        repeat first | refine thenN ?_ | refine thenX ?_ | refine thenR ?_ | refine blockN ?_ | refine blockR ?_ | refine blockX ?_ | refine blockM rfl ?_
        simp [RetOk, RV, hb]
      · try simp at h25
        rw [samZ, if_pos h25] at hs
        refine AWp.skip ?_
        repeat first | refine thenN ?_ | refine thenX ?_ | refine thenR ?_ | refine blockN ?_ | refine blockR ?_ | refine blockX ?_ | refine blockM rfl ?_
        -- region 5
        refine AWp.rend E_ok [0, 1, 4, 5, 10, 14, 25] fun K hK => ?_
        simp [encInts_eq, h14, hy1, hx, hxx]
        repeat refine ⟨by first | omega | assumption | (simp only [maxLen]; omega) | (intros; omega) | decide, ?_⟩
        refine hK _ ?_
        clear hK K
        repeat first | refine thenN ?_ | refine thenX ?_ | refine thenR ?_ | refine blockN ?_ | refine blockR ?_ | refine blockX ?_ | refine blockM rfl ?_
        have hw : IntKind.i64.wrap ((k : Int) + 1) = (k : Int) + 1 := by rw [wrap_i64] <;> omega
        skip
        refine ⟨_, h14, hs, ?_, ?_⟩
        · first | exact trivial | (simp; omega) | simp
        · simp [Weak, TW, hw, encInts_eq]
    · try simp at h14
      obtain rfl : k = a.length := by omega
      simp [samZ] at hs
      have hb : decide (a = b) = true := by rw [← hle]; simp [hs]
      refine AWp.exit ?_
      repeat first | refine thenN ?_ | refine thenX ?_ | refine thenR ?_ | refine blockN ?_ | refine blockR ?_ | refine blockX ?_ | refine blockM rfl ?_
      -- region 8
      refine AWp.rseq E_ok [0, 1, 4, 5, 10, 14, 25] fun K hK => ?_
      simp [encInts_eq, h14]
      repeat refine ⟨by first | omega | assumption | (simp only [maxLen]; omega) | (intros; omega) | decide, ?_⟩
      refine hK _ ?_
      clear hK K
      refine AWp.ret ?_
      repeat first | refine thenN ?_ | refine thenX ?_ | refine thenR ?_ | refine blockN ?_ | refine blockR ?_ | refine blockX ?_ | refine blockM rfl ?_
      simp [RetOk, RV, hb]
end Go.Proofs.Ytceapemkefaicaa

set_option maxRecDepth 100000
set_option linter.unusedSimpArgs false
set_option linter.unusedVariables false
namespace Go.Proofs.Ytceapemkefaicaa
open Go Ab Pl
theorem ref37_SamePattern (a b : Pat) (h1 : a.skip.length ≤ 100000) (h2 : a.dbl.length ≤ 100000) : ACalls E.P 47 [encPat a, encPat b] (.d (.bool (decide (a = b)))) := by
  refine ACalls.intro E_ok Try.func47 rfl rfl Try.ntmps47 Try.results47 (Nat.le_of_ble_eq_true rfl) fun hok base S0 w0 => ?_
  -- region 0
  refine AWp.rseq E_ok [0, 1, 2, 3, 4] fun K hK => ?_
  simp [encPat_eq]
  repeat refine ⟨by first | omega | assumption | (simp only [maxLen]; omega) | (intros; omega) | decide, ?_⟩
  refine hK _ ?_
  clear hK K
  -- region 1
  refine AWp.rseq E_ok [0, 1, 2, 3, 4] fun K hK => ?_
  simp [encPat_eq]
  repeat refine ⟨by first | omega | assumption | (simp only [maxLen]; omega) | (intros; omega) | decide, ?_⟩
  refine meet.of (ref37_same a.skip b.skip (by omega)) ?_
  simp [encPat_eq]
  repeat refine ⟨by first | omega | assumption | (simp only [maxLen]; omega) | (intros; omega) | decide, ?_⟩
  refine meet.of (ref37_same a.dbl b.dbl (by omega)) ?_
  simp [encPat_eq]
  repeat refine ⟨by first | omega | assumption | (simp only [maxLen]; omega) | (intros; omega) | decide, ?_⟩
  refine hK _ ?_
  clear hK K
  refine AWp.ret ?_
  repeat first | refine thenN ?_ | refine thenX ?_ | refine thenR ?_ | refine blockN ?_ | refine blockR ?_ | refine blockX ?_ | refine blockM rfl ?_
  simp [RetOk, RV]; rw [Bool.eq_iff_iff]; simp [pat_eq, and_assoc]
end Go.Proofs.Ytceapemkefaicaa

set_option maxRecDepth 100000
set_option linter.unusedSimpArgs false
set_option linter.unusedVariables false
namespace Go.Proofs.Ytceapemkefaicaa
open Go Ab Pl
theorem ref37_Same (a b : Ser) (h1 : a.pat.skip.length ≤ 100000) (h2 : a.pat.dbl.length ≤ 100000) (h3 : a.iss.length ≤ 100000) : ACalls E.P 20 [encSer a, encSer b] (.d (.bool (decide (a = b)))) := by
  refine ACalls.intro E_ok Try.func20 rfl rfl Try.ntmps20 Try.results20 (Nat.le_of_ble_eq_true rfl) fun hok base S0 w0 => ?_
  -- region 0
  refine AWp.rseq E_ok [0, 1, 2, 3, 4] fun K hK => ?_
  simp [encSer_eq, encIsss_eq]
  repeat refine ⟨by first | omega | assumption | (simp only [maxLen]; omega) | (intros; omega) | decide, ?_⟩
  refine hK _ ?_
  clear hK K
  -- region 1
  refine AWp.rseq E_ok [0, 1, 2, 3, 4] fun K hK => ?_
  simp [encSer_eq, encIsss_eq]
  repeat refine ⟨by first | omega | assumption | (simp only [maxLen]; omega) | (intros; omega) | decide, ?_⟩
  refine meet.of (ref36_Same a.iss b.iss (by omega)) ?_
  simp [encSer_eq, encIsss_eq]
  repeat refine ⟨by first | omega | assumption | (simp only [maxLen]; omega) | (intros; omega) | decide, ?_⟩
  refine meet.of (ref37_SamePattern a.pat b.pat (by omega) (by omega)) ?_
  simp [encSer_eq, encIsss_eq]
  repeat refine ⟨by first | omega | assumption | (simp only [maxLen]; omega) | (intros; omega) | decide, ?_⟩
  refine hK _ ?_
  clear hK K
  refine AWp.ret ?_
  repeat first | refine thenN ?_ | refine thenX ?_ | refine thenR ?_ | refine blockN ?_ | refine blockR ?_ | refine blockX ?_ | refine blockM rfl ?_
  simp [RetOk, RV]; rw [Bool.eq_iff_iff]; simp [ser_eq]
end Go.Proofs.Ytceapemkefaicaa

set_option maxRecDepth 100000
set_option linter.unusedSimpArgs false
set_option linter.unusedVariables false
namespace Go.Proofs.Ytceapemkefaicaa
open Go Ab Pl
theorem law37_SerialBinds (s : Ser) (v it : Int) : ACalls E.P 8 [encSer s, .int .i64 v, .int .i64 it] (.d (.bool true)) := by
  refine ACalls.intro E_ok Try.func8 rfl rfl Try.ntmps8 Try.results8 (Nat.le_of_ble_eq_true rfl) fun hok base S0 w0 => ?_
  -- region 0
  refine AWp.rseq E_ok [0, 1, 2, 3, 6, 7, 8, 9, 10, 13] fun K hK => ?_
  simp [encSer_eq, encIsss_eq, serR_1, serR_2]
  repeat refine ⟨by first | omega | assumption | (simp only [maxLen]; omega) | (intros; omega) | decide, ?_⟩
  refine hK _ ?_
  clear hK K
  refine AWp.seq ?_
  -- region 1
  refine AWp.rseq E_ok [0, 1, 2, 3, 6, 7, 8, 9, 10, 13] fun K hK => ?_
  simp [encSer_eq, encIsss_eq, serR_1, serR_2]
  repeat refine ⟨by first | omega | assumption | (simp only [maxLen]; omega) | (intros; omega) | decide, ?_⟩
  refine meet.of (law37_valid s) ?_
  simp [encSer_eq, encIsss_eq, serR_1, serR_2]
  repeat refine ⟨by first | omega | assumption | (simp only [maxLen]; omega) | (intros; omega) | decide, ?_⟩
  refine hK _ ?_
  clear hK K
  refine AWp.cond rfl (fun h13 => ?_) (fun h13 => ?_)
  · try simp at h13
    -- region 2
    refine AWp.rseq E_ok [0, 1, 2, 3, 6, 7, 8, 9, 10, 13] fun K hK => ?_
    simp [encSer_eq, encIsss_eq, serR_1, serR_2]
    repeat refine ⟨by first | omega | assumption | (simp only [maxLen]; omega) | (intros; omega) | decide, ?_⟩
    refine meet.of (law37_alive) ?_
    simp [encSer_eq, encIsss_eq, serR_1, serR_2]
    repeat refine ⟨by first | omega | assumption | (simp only [maxLen]; omega) | (intros; omega) | decide, ?_⟩
    refine hK _ ?_
    clear hK K
    refine AWp.ret ?_
    repeat first | refine thenN ?_ | refine thenX ?_ | refine thenR ?_ | refine blockN ?_ | refine blockR ?_ | refine blockX ?_ | refine blockM rfl ?_
    simp [RetOk, RV]
  · try simp at h13
    have hv := h13
    have h : SerOk s := serR_ok (by simpa using hv.2)
    have hlen := len_bind v it (small_ok (by simpa using hv.1))
    refine AWp.skip ?_
    repeat first | refine thenN ?_ | refine thenX ?_ | refine thenR ?_ | refine blockN ?_ | refine blockR ?_ | refine blockX ?_ | refine blockM rfl ?_
    -- region 3
    refine AWp.rseq E_ok [0, 1, 2, 3, 6, 7, 8, 9, 10, 13] fun K hK => ?_
    simp [encSer_eq, encIsss_eq, serR_1, serR_2]
    repeat refine ⟨by first | omega | assumption | (simp only [maxLen]; omega) | (intros; omega) | decide, ?_⟩
    refine meet.of (serial_Bind s v it (by have := h.len; omega)) ?_
    simp [encSer_eq, encIsss_eq, serR_1, serR_2]
    repeat refine ⟨by first | omega | assumption | (simp only [maxLen]; omega) | (intros; omega) | decide, ?_⟩
    refine hK _ ?_
    clear hK K
    -- region 4
    refine AWp.rseq E_ok [0, 1, 2, 3, 6, 7, 8, 9, 10, 13] fun K hK => ?_
    simp [encSer_eq, encIsss_eq, serR_1, serR_2]
    repeat refine ⟨by first | omega | assumption | (simp only [maxLen]; omega) | (intros; omega) | decide, ?_⟩
    refine meet.of (ref37_Bind s v it (by have := h.len; omega) h.next) ?_
    simp [encSer_eq, encIsss_eq, serR_1, serR_2]
    repeat refine ⟨by first | omega | assumption | (simp only [maxLen]; omega) | (intros; omega) | decide, ?_⟩
    refine hK _ ?_
    clear hK K
    -- region 5
    refine AWp.rseq E_ok [0, 1, 2, 3, 6, 7, 8, 9, 10, 13] fun K hK => ?_
    simp [encSer_eq, encIsss_eq, serR_1, serR_2]
    repeat refine ⟨by first | omega | assumption | (simp only [maxLen]; omega) | (intros; omega) | decide, ?_⟩
    refine meet.of (ref37_Same (bindR s v it).1 (bindR s v it).1 hlen.1 hlen.2.1 hlen.2.2) ?_
    simp [encSer_eq, encIsss_eq, serR_1, serR_2]
    repeat refine ⟨by first | omega | assumption | (simp only [maxLen]; omega) | (intros; omega) | decide, ?_⟩
    refine meet.of (law37_alive) ?_
    simp [encSer_eq, encIsss_eq, serR_1, serR_2]
    repeat refine ⟨by first | omega | assumption | (simp only [maxLen]; omega) | (intros; omega) | decide, ?_⟩
    refine hK _ ?_
    clear hK K
    refine AWp.ret ?_
    repeat first | refine thenN ?_ | refine thenX ?_ | refine thenR ?_ | refine blockN ?_ | refine blockR ?_ | refine blockX ?_ | refine blockM rfl ?_
    simp [RetOk, RV]
end Go.Proofs.Ytceapemkefaicaa
