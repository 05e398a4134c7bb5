/-
  What the functions compute that the statement reaches: contracts, and the plain laws between them. Conditions stand at each theorem.
-/
import Derived.Test.YtkmcchcdmdooiaaWalkOne
set_option linter.unusedVariables false
set_option linter.unusedSimpArgs false
set_option maxRecDepth 100000
set_option linter.unusedSimpArgs false
set_option linter.unusedVariables false
namespace Go.Proofs.Ytkmcchcdmdooiaa
open Go Ab Lib
theorem calendar_Before (c : Cal) (d : Int) (hc : calR c = 0) : ACalls E.P 15 [encCal c, .int .i64 d] (.tup [.int .i64 (beforeR c d).1, .int .i64 (beforeR c d).2]) := by
  refine ACalls.intro E_ok Try.func15 rfl rfl Try.ntmps15 Try.results15 (Nat.le_of_ble_eq_true rfl) fun hok base S0 w0 => ?_
  -- region 0
  refine AWp.rseq E_ok [0, 1, 2, 4, 5, 6, 10, 15] fun K hK => ?_
  simp [encCal_eq, encInts_eq, hi0]
  repeat refine ⟨by first | omega | assumption | decide | (simp only [maxLen]; omega), ?_⟩
  refine hK _ ?_
  clear hK K
  refine AWp.seq ?_
  -- region 1
  refine AWp.rseq E_ok [0, 1, 2, 4, 5, 6, 10, 15] fun K hK => ?_
  simp [encCal_eq, encInts_eq, hi0]
  repeat refine ⟨by first | omega | assumption | decide | (simp only [maxLen]; omega), ?_⟩
  refine hK _ ?_
  clear hK K
  refine AWp.block ?_
  refine AWp.loop (ι := { x : Int // x ≤ 109572 ∧ beforeN c (x + 1).toNat x = beforeR c d }) (fun x => match x with | ⟨x, hx, hs⟩ => [(0, T.val (D.agg [D.int IntKind.i64 c.week, (D.int IntKind.i64 0).slice (List.map (D.int IntKind.i64) c.closed)])), (1, T.val (D.int IntKind.i64 d)), (2, T.box [C.d (D.int IntKind.i64 c.week), C.d ((D.int IntKind.i64 0).slice (List.map (D.int IntKind.i64) c.closed))]), (6, T.val (.int .i64 x))]) (fun x => match x with | ⟨x, hx, hs⟩ => (x + 1).toNat) ⟨hi0 d, (hi0_rng d).1, rfl⟩ ?_ ?_
  · simp [Weak, TW, encCal_eq, encInts_eq, hi0]
  rintro ⟨x, hx, hs⟩
  simp only
  try simp only at hx
  try simp only at hs
  refine AWp.seq ?_
  -- region 2
  refine AWp.rseq E_ok [0, 1, 2, 4, 5, 6, 10, 15] fun K hK => ?_
  simp [encCal_eq, encInts_eq, hi0]
  repeat refine ⟨by first | omega | assumption | decide | (simp only [maxLen]; omega), ?_⟩
  refine hK _ ?_
  clear hK K
  refine AWp.cond rfl (fun h10 => ?_) (fun h10 => ?_)
  · try simp at h10
    have hz : (x + 1).toNat = (x - 1 + 1).toNat + 1 := by omega
    rw [hz, beforeN] at hs
    refine AWp.skip ?_
    repeat first | refine thenN ?_ | refine thenX ?_ | refine thenR ?_ | refine blockN ?_ | refine blockR ?_ | refine blockX ?_ | refine blockM rfl ?_
    refine AWp.seq ?_
    refine AWp.block ?_
    -- region 4
    refine AWp.rseq E_ok [0, 1, 2, 4, 5, 6, 10, 15] fun K hK => ?_
    simp [encCal_eq, encInts_eq, hi0]
    refine meet.of (calendar_Open c x hc) ?_
    simp [encCal_eq, encInts_eq, hi0]
    repeat refine ⟨by first | omega | assumption | decide | (simp only [maxLen]; omega), ?_⟩
    refine hK _ ?_
    clear hK K
    refine AWp.cond rfl (fun h15 => ?_) (fun h15 => ?_)
    · try simp at h15
      rw [if_pos h15] at hs
      -- region 5
      refine AWp.rseq E_ok [0, 1, 2, 4, 5, 6, 10, 15] fun K hK => ?_
      simp [encCal_eq, encInts_eq, hi0]
      repeat refine ⟨by first | omega | assumption | decide | (simp only [maxLen]; omega), ?_⟩
      refine hK _ ?_
      clear hK K
      refine AWp.ret ?_
      repeat first | refine thenN ?_ | refine thenX ?_ | refine thenR ?_ | refine blockN ?_ | refine blockR ?_ | refine blockX ?_ | refine blockM rfl ?_
      simp [RetOk, RV, RVs, ← hs]
    · try simp at h15
      rw [if_neg (by simp [h15])] at hs
      refine AWp.skip ?_
      repeat first | refine thenN ?_ | refine thenX ?_ | refine thenR ?_ | refine blockN ?_ | refine blockR ?_ | refine blockX ?_ | refine blockM rfl ?_
      -- region 3
      refine AWp.rend E_ok [0, 1, 2, 4, 5, 6, 10, 15] fun K hK => ?_
      simp [encCal_eq, encInts_eq, hi0]
      repeat refine ⟨by first | omega | assumption | decide | (simp only [maxLen]; omega), ?_⟩
      refine hK _ ?_
      clear hK K
      repeat first | refine thenN ?_ | refine thenX ?_ | refine thenR ?_ | refine blockN ?_ | refine blockR ?_ | refine blockX ?_ | refine blockM rfl ?_
      have hw : IntKind.i64.wrap (x - 1) = x - 1 := by rw [wrap_i64] <;> omega
      refine ⟨⟨x - 1, by omega, hs⟩, ?_, by simp only; omega⟩
      simp [Weak, TW, encCal_eq, encInts_eq, hw]
  · try simp at h10
    have hz : (x + 1).toNat = 0 := by omega
    rw [hz, beforeN] at hs
    refine AWp.exit ?_
    repeat first | refine thenN ?_ | refine thenX ?_ | refine thenR ?_ | refine blockN ?_ | refine blockR ?_ | refine blockX ?_ | refine blockM rfl ?_
    -- region 6
    refine AWp.rseq E_ok [0, 1, 2, 4, 5, 6, 10, 15] fun K hK => ?_
    simp [encCal_eq, encInts_eq, hi0]
    repeat refine ⟨by first | omega | assumption | decide | (simp only [maxLen]; omega), ?_⟩
    refine hK _ ?_
    clear hK K
    refine AWp.ret ?_
    repeat first | refine thenN ?_ | refine thenX ?_ | refine thenR ?_ | refine blockN ?_ | refine blockR ?_ | refine blockX ?_ | refine blockM rfl ?_
    simp [RetOk, RV, RVs, ← hs]
end Go.Proofs.Ytkmcchcdmdooiaa

set_option maxRecDepth 100000
set_option linter.unusedSimpArgs false
set_option linter.unusedVariables false
namespace Go.Proofs.Ytkmcchcdmdooiaa
open Go Ab Lib
theorem calendar_Later (c : Cal) (d n : Int) (hc : calR c = 0) : ACalls E.P 17 [encCal c, .int .i64 d, .int .i64 n] (.tup [.int .i64 (laterR c d n).1, .int .i64 (laterR c d n).2]) := by
  refine ACalls.intro E_ok Try.func17 rfl rfl Try.ntmps17 Try.results17 (Nat.le_of_ble_eq_true rfl) fun hok base S0 w0 => ?_
  -- region 0
  refine AWp.rseq E_ok [0, 1, 2, 3, 6, 7, 8, 9, 10, 16, 19, 21, 28, 29, 30, 39] fun K hK => ?_
  simp [encCal_eq, encInts_eq]
  repeat refine ⟨by first | omega | assumption | decide | (simp only [maxLen]; omega), ?_⟩
  refine hK _ ?_
  clear hK K
  refine AWp.seq ?_
  -- region 1
  refine AWp.rseq E_ok [0, 1, 2, 3, 6, 7, 8, 9, 10, 16, 19, 21, 28, 29, 30, 39] fun K hK => ?_
  simp [encCal_eq, encInts_eq]
  repeat refine ⟨by first | omega | assumption | decide | (simp only [maxLen]; omega), ?_⟩
  refine hK _ ?_
  clear hK K
  refine AWp.cond rfl (fun h16 => ?_) (fun h16 => ?_)
  · try simp at h16
    -- region 2
    refine AWp.rseq E_ok [0, 1, 2, 3, 6, 7, 8, 9, 10, 16, 19, 21, 28, 29, 30, 39] fun K hK => ?_
    simp [encCal_eq, encInts_eq, h16]
    repeat refine ⟨by first | omega | assumption | decide | (simp only [maxLen]; omega), ?_⟩
    refine hK _ ?_
    clear hK K
    refine AWp.ret ?_
    repeat first | refine thenN ?_ | refine thenX ?_ | refine thenR ?_ | refine blockN ?_ | refine blockR ?_ | refine blockX ?_ | refine blockM rfl ?_
    first | (rw [laterR_arg h16]; simp [RetOk, RV, RVs]; done) | (rw [laterR_day h16 (by simp [isDay] at h19; omega)]; simp [RetOk, RV, RVs]; done) | (subst h21; rw [laterR_zero (by simp [isDay] at h19; omega)]; simp [RetOk, RV, RVs]; done) | (rw [laterR_go h16 (by simp [isDay] at h19; omega) h21]; simp [RetOk, RV, RVs, ← hs])
  · try simp at h16
    refine AWp.skip ?_
    repeat first | refine thenN ?_ | refine thenX ?_ | refine thenR ?_ | refine blockN ?_ | refine blockR ?_ | refine blockX ?_ | refine blockM rfl ?_
    refine AWp.seq ?_
    -- region 3
    refine AWp.rseq E_ok [0, 1, 2, 3, 6, 7, 8, 9, 10, 16, 19, 21, 28, 29, 30, 39] fun K hK => ?_
    simp [encCal_eq, encInts_eq, h16]
    refine meet.of (calendar_isDay _) ?_
    simp [encCal_eq, encInts_eq, h16]
    repeat refine ⟨by first | omega | assumption | decide | (simp only [maxLen]; omega), ?_⟩
    refine hK _ ?_
    clear hK K
    refine AWp.cond rfl (fun h19 => ?_) (fun h19 => ?_)
    · try simp at h19
      -- region 4
      refine AWp.rseq E_ok [0, 1, 2, 3, 6, 7, 8, 9, 10, 16, 19, 21, 28, 29, 30, 39] fun K hK => ?_
      simp [encCal_eq, encInts_eq, h16, h19]
      repeat refine ⟨by first | omega | assumption | decide | (simp only [maxLen]; omega), ?_⟩
      refine hK _ ?_
      clear hK K
      refine AWp.ret ?_
      repeat first | refine thenN ?_ | refine thenX ?_ | refine thenR ?_ | refine blockN ?_ | refine blockR ?_ | refine blockX ?_ | refine blockM rfl ?_
      first | (rw [laterR_arg h16]; simp [RetOk, RV, RVs]; done) | (rw [laterR_day h16 (by simp [isDay] at h19; omega)]; simp [RetOk, RV, RVs]; done) | (subst h21; rw [laterR_zero (by simp [isDay] at h19; omega)]; simp [RetOk, RV, RVs]; done) | (rw [laterR_go h16 (by simp [isDay] at h19; omega) h21]; simp [RetOk, RV, RVs, ← hs])
    · try simp at h19
      refine AWp.skip ?_
      repeat first | refine thenN ?_ | refine thenX ?_ | refine thenR ?_ | refine blockN ?_ | refine blockR ?_ | refine blockX ?_ | refine blockM rfl ?_
      refine AWp.seq ?_
      -- region 5
      refine AWp.rseq E_ok [0, 1, 2, 3, 6, 7, 8, 9, 10, 16, 19, 21, 28, 29, 30, 39] fun K hK => ?_
      simp [encCal_eq, encInts_eq, h16, h19]
      repeat refine ⟨by first | omega | assumption | decide | (simp only [maxLen]; omega), ?_⟩
      refine hK _ ?_
      clear hK K
      refine AWp.cond rfl (fun h21 => ?_) (fun h21 => ?_)
      · try simp at h21
        -- region 6
        refine AWp.rseq E_ok [0, 1, 2, 3, 6, 7, 8, 9, 10, 16, 19, 21, 28, 29, 30, 39] fun K hK => ?_
        simp [encCal_eq, encInts_eq, h16, h19]
        refine meet.of (calendar_Next c d hc) ?_
        simp [encCal_eq, encInts_eq, h16, h19]
        repeat refine ⟨by first | omega | assumption | decide | (simp only [maxLen]; omega), ?_⟩
        refine hK _ ?_
        clear hK K
        refine AWp.ret ?_
        repeat first | refine thenN ?_ | refine thenX ?_ | refine thenR ?_ | refine blockN ?_ | refine blockR ?_ | refine blockX ?_ | refine blockM rfl ?_
        first | (rw [laterR_arg h16]; simp [RetOk, RV, RVs]; done) | (rw [laterR_day h16 (by simp [isDay] at h19; omega)]; simp [RetOk, RV, RVs]; done) | (subst h21; rw [laterR_zero (by simp [isDay] at h19; omega)]; simp [RetOk, RV, RVs]; done) | (rw [laterR_go h16 (by simp [isDay] at h19; omega) h21]; simp [RetOk, RV, RVs, ← hs])
      · try simp at h21
        refine AWp.skip ?_
        repeat first | refine thenN ?_ | refine thenX ?_ | refine thenR ?_ | refine blockN ?_ | refine blockR ?_ | refine blockX ?_ | refine blockM rfl ?_
        -- region 7
        refine AWp.rseq E_ok [0, 1, 2, 3, 6, 7, 8, 9, 10, 16, 19, 21, 28, 29, 30, 39] fun K hK => ?_
        simp [encCal_eq, encInts_eq, h16, h19]
        repeat refine ⟨by first | omega | assumption | decide | (simp only [maxLen]; omega), ?_⟩
        refine hK _ ?_
        clear hK K
        refine AWp.seq ?_
        -- region 8
        refine AWp.rseq E_ok [0, 1, 2, 3, 6, 7, 8, 9, 10, 16, 19, 21, 28, 29, 30, 39] fun K hK => ?_
        simp [encCal_eq, encInts_eq, h16, h19]
        repeat refine ⟨by first | omega | assumption | decide | (simp only [maxLen]; omega), ?_⟩
        refine hK _ ?_
        clear hK K
        refine AWp.block ?_
        refine AWp.loop (ι := { x : Nat × Int // 0 ≤ x.2 ∧ x.2 ≤ 109572 ∧ (x.1 : Int) ≤ n ∧ laterN c (n.toNat - x.1) x.2 = laterN c n.toNat d }) (fun x => match x with | ⟨⟨k, x⟩, hx0, hx1, hk, hs⟩ => [(0, T.val (D.agg [D.int IntKind.i64 c.week, (D.int IntKind.i64 0).slice (List.map (D.int IntKind.i64) c.closed)])), (1, T.val (D.int IntKind.i64 d)), (2, T.val (D.int IntKind.i64 n)), (3, T.box [C.d (D.int IntKind.i64 c.week), C.d ((D.int IntKind.i64 0).slice (List.map (D.int IntKind.i64) c.closed))]), (8, T.val (.int .i64 x)), (28, T.val (D.int IntKind.i64 n)), (29, T.val (.int .i64 k))]) (fun x => match x with | ⟨⟨k, x⟩, hx0, hx1, hk, hs⟩ => n.toNat - k) ⟨(0, d), by simp [isDay] at h19; exact ⟨by simp only; omega, by simp only; omega, by simp only; omega, rfl⟩⟩ ?_ ?_
        · simp [Weak, TW, encCal_eq, encInts_eq]
        rintro ⟨⟨k, x⟩, hx0, hx1, hk, hs⟩
        simp only
        try simp only at hx0
        try simp only at hx1
        try simp only at hk
        try simp only at hs
        -- region 9
        refine AWp.rseq E_ok [0, 1, 2, 3, 6, 7, 8, 9, 10, 16, 19, 21, 28, 29, 30, 39] fun K hK => ?_
        simp [encCal_eq, encInts_eq, h16, h19]
        repeat refine ⟨by first | omega | assumption | decide | (simp only [maxLen]; omega), ?_⟩
        refine hK _ ?_
        clear hK K
        refine AWp.seq ?_
        refine AWp.cond rfl (fun h30 => ?_) (fun h30 => ?_)
        · try simp at h30
          have hz : n.toNat - k = n.toNat - (k + 1) + 1 := by omega
          have hwx : IntKind.i64.wrap (x + 1) = x + 1 := by rw [wrap_i64] <;> omega
          rw [hz, laterN] at hs
          refine AWp.skip ?_
          repeat first | refine thenN ?_ | refine thenX ?_ | refine thenR ?_ | refine blockN ?_ | refine blockR ?_ | refine blockX ?_ | refine blockM rfl ?_
          refine AWp.seq ?_
          refine AWp.block ?_
          -- region 10
          refine AWp.rseq E_ok [0, 1, 2, 3, 6, 7, 8, 9, 10, 16, 19, 21, 28, 29, 30, 39] fun K hK => ?_
          simp [encCal_eq, encInts_eq, h16, h19, hwx]
          refine meet.of (calendar_Next c _ hc) ?_
          simp [encCal_eq, encInts_eq, h16, h19, hwx]
          repeat refine ⟨by first | omega | assumption | decide | (simp only [maxLen]; omega), ?_⟩
          refine hK _ ?_
          clear hK K
          refine AWp.seq ?_
          -- region 11
          refine AWp.rseq E_ok [0, 1, 2, 3, 6, 7, 8, 9, 10, 16, 19, 21, 28, 29, 30, 39] fun K hK => ?_
          simp [encCal_eq, encInts_eq, h16, h19, hwx]
          repeat refine ⟨by first | omega | assumption | decide | (simp only [maxLen]; omega), ?_⟩
          refine hK _ ?_
          clear hK K
          refine AWp.cond rfl (fun h39 => ?_) (fun h39 => ?_)
          · try simp at h39
            rw [if_pos h39] at hs
            -- region 12
            refine AWp.rseq E_ok [0, 1, 2, 3, 6, 7, 8, 9, 10, 16, 19, 21, 28, 29, 30, 39] fun K hK => ?_
            simp [encCal_eq, encInts_eq, h16, h19, hwx]
            repeat refine ⟨by first | omega | assumption | decide | (simp only [maxLen]; omega), ?_⟩
            refine hK _ ?_
            clear hK K
            refine AWp.ret ?_
            repeat first | refine thenN ?_ | refine thenX ?_ | refine thenR ?_ | refine blockN ?_ | refine blockR ?_ | refine blockX ?_ | refine blockM rfl ?_
            first | (rw [laterR_arg h16]; simp [RetOk, RV, RVs]; done) | (rw [laterR_day h16 (by simp [isDay] at h19; omega)]; simp [RetOk, RV, RVs]; done) | (subst h21; rw [laterR_zero (by simp [isDay] at h19; omega)]; simp [RetOk, RV, RVs]; done) | (rw [laterR_go h16 (by simp [isDay] at h19; omega) h21]; simp [RetOk, RV, RVs, ← hs])
          · try simp at h39
            rw [if_neg (by omega)] at hs
            refine AWp.skip ?_
            repeat first | refine thenN ?_ | refine thenX ?_ | refine thenR ?_ | refine blockN ?_ | refine blockR ?_ | refine blockX ?_ | refine blockM rfl ?_
            -- region 13
            refine AWp.rend E_ok [0, 1, 2, 3, 6, 7, 8, 9, 10, 16, 19, 21, 28, 29, 30, 39] fun K hK => ?_
            simp [encCal_eq, encInts_eq, h16, h19, hwx]
            repeat refine ⟨by first | omega | assumption | decide | (simp only [maxLen]; omega), ?_⟩
            refine hK _ ?_
            clear hK K
            repeat first | refine thenN ?_ | refine thenX ?_ | refine thenR ?_ | refine blockN ?_ | refine blockR ?_ | refine blockX ?_ | refine blockM rfl ?_
            -- region 14
            refine AWp.rend E_ok [0, 1, 2, 3, 6, 7, 8, 9, 10, 16, 19, 21, 28, 29, 30, 39] fun K hK => ?_
            simp [encCal_eq, encInts_eq, h16, h19, hwx]
            repeat refine ⟨by first | omega | assumption | decide | (simp only [maxLen]; omega), ?_⟩
            refine hK _ ?_
            clear hK K
            repeat first | refine thenN ?_ | refine thenX ?_ | refine thenR ?_ | refine blockN ?_ | refine blockR ?_ | refine blockX ?_ | refine blockM rfl ?_
            have hw : IntKind.i64.wrap ((k : Int) + 1) = (k : Int) + 1 := by rw [wrap_i64] <;> omega
            have hr := nextR_rng c (x + 1)
            refine ⟨⟨(k + 1, (nextR c (x + 1)).1), hr.1, hr.2.1, by simp only; omega, hs⟩, ?_, by simp only; omega⟩
            simp [Weak, TW, encCal_eq, encInts_eq, hw]
        · try simp at h30
          have hz : n.toNat - k = 0 := by omega
          rw [hz, laterN] at hs
          refine AWp.exit ?_
          repeat first | refine thenN ?_ | refine thenX ?_ | refine thenR ?_ | refine blockN ?_ | refine blockR ?_ | refine blockX ?_ | refine blockM rfl ?_
          -- region 15
          refine AWp.rseq E_ok [0, 1, 2, 3, 6, 7, 8, 9, 10, 16, 19, 21, 28, 29, 30, 39] fun K hK => ?_
          simp [encCal_eq, encInts_eq, h16, h19]
          repeat refine ⟨by first | omega | assumption | decide | (simp only [maxLen]; omega), ?_⟩
          refine hK _ ?_
          clear hK K
          refine AWp.ret ?_
          repeat first | refine thenN ?_ | refine thenX ?_ | refine thenR ?_ | refine blockN ?_ | refine blockR ?_ | refine blockX ?_ | refine blockM rfl ?_
          first | (rw [laterR_arg h16]; simp [RetOk, RV, RVs]; done) | (rw [laterR_day h16 (by simp [isDay] at h19; omega)]; simp [RetOk, RV, RVs]; done) | (subst h21; rw [laterR_zero (by simp [isDay] at h19; omega)]; simp [RetOk, RV, RVs]; done) | (rw [laterR_go h16 (by simp [isDay] at h19; omega) h21]; simp [RetOk, RV, RVs, ← hs])
end Go.Proofs.Ytkmcchcdmdooiaa

set_option maxRecDepth 100000
set_option linter.unusedSimpArgs false
set_option linter.unusedVariables false
namespace Go.Proofs.Ytkmcchcdmdooiaa
open Go Ab Lib
theorem slices_IndexFunc_int_int (l : List Int) (f : Nat) (caps : List D) (p : Int → Bool) (hp : ∀ n, ACalls E.P f (.int .i64 n :: caps) (.d (.bool (p n)))) : ACalls E.P 29 [encInts l, .fn f caps] (.d (.int .i64 (idxF p 0 l))) := by
  refine ACalls.intro E_ok Try.func29 rfl rfl Try.ntmps29 Try.results29 (Nat.le_of_ble_eq_true rfl) fun hok base S0 w0 => ?_
  have hl : l.length ≤ 9223372036854775807 := by have := (Ok_slice (hok (encInts l) (by simp))).1; simpa using this
  -- region 0
  refine AWp.rseq E_ok [0, 1, 4, 5, 7, 8, 9, 16] fun K hK => ?_
  simp [encInts_eq]
  repeat refine ⟨by first | omega | assumption | decide | (simp only [maxLen]; omega), ?_⟩
  refine hK _ ?_
  clear hK K
  refine AWp.seq ?_
  -- region 1
  refine AWp.rseq E_ok [0, 1, 4, 5, 7, 8, 9, 16] fun K hK => ?_
  simp [encInts_eq]
  repeat refine ⟨by first | omega | assumption | decide | (simp only [maxLen]; omega), ?_⟩
  refine hK _ ?_
  clear hK K
  refine AWp.block ?_
  refine AWp.range (l := l) (F := idxF p) (tot := idxF p 0 l) (fun k y => match y with | i => i = (k : Int)) (fun k y => match y with | i => [(0, T.val (encInts l)), (1, T.val (.fn f caps)), (7, T.val (.int .i64 l.length)), (8, T.val (.int .i64 k))]) (0) ?_ rfl ?_ ?_
  · simp [Weak, TW, encInts_eq]
  · first | exact trivial | (simp; omega) | simp
  rintro k i hk hs hi
  try simp only at hi
  -- region 2
  refine AWp.rseq E_ok [0, 1, 4, 5, 7, 8, 9, 16] fun K hK => ?_
  simp [encInts_eq]
  repeat refine ⟨by first | omega | assumption | decide | (simp only [maxLen]; omega), ?_⟩
  refine hK _ ?_
  clear hK K
  refine AWp.seq ?_
  refine AWp.cond rfl (fun h9 => ?_) (fun h9 => ?_)
  · try simp at h9
    obtain ⟨x, hx, hxx, hd⟩ := at_indexG (l := l) h9
    rw [hd] at hs
    refine AWp.skip ?_
    repeat first | refine thenN ?_ | refine thenX ?_ | refine thenR ?_ | refine blockN ?_ | refine blockR ?_ | refine blockX ?_ | refine blockM rfl ?_
    refine AWp.seq ?_
    refine AWp.block ?_
    -- region 3
    refine AWp.rseq E_ok [0, 1, 4, 5, 7, 8, 9, 16] fun K hK => ?_
    simp [encInts_eq, h9, hx, hxx]
    repeat refine ⟨by first | omega | assumption | decide | (simp only [maxLen]; omega), ?_⟩
    refine hK _ ?_
    clear hK K
    -- region 4
    refine AWp.rseq E_ok [0, 1, 4, 5, 7, 8, 9, 16] fun K hK => ?_
    simp [encInts_eq, h9, hx, hxx]
    refine meet.of (hp x) ?_
    simp [encInts_eq, h9, hx, hxx]
    repeat refine ⟨by first | omega | assumption | decide | (simp only [maxLen]; omega), ?_⟩
    refine hK _ ?_
    clear hK K
    refine AWp.cond rfl (fun h16 => ?_) (fun h16 => ?_)
    · try simp at h16
      -- region 5
      refine AWp.rseq E_ok [0, 1, 4, 5, 7, 8, 9, 16] fun K hK => ?_
      simp [encInts_eq, h9, hx, hxx, h16]
      repeat refine ⟨by first | omega | assumption | decide | (simp only [maxLen]; omega), ?_⟩
      refine hK _ ?_
      clear hK K
      refine AWp.ret ?_
      repeat first | refine thenN ?_ | refine thenX ?_ | refine thenR ?_ | refine blockN ?_ | refine blockR ?_ | refine blockX ?_ | refine blockM rfl ?_
      simp [idxF, h16] at hs
      first | (simp [RetOk, RV, ← hs]; done) | (simp [RetOk, RV, ← hs, hi])
    · try simp at h16
      refine AWp.skip ?_
      repeat first | refine thenN ?_ | refine thenX ?_ | refine thenR ?_ | refine blockN ?_ | refine blockR ?_ | refine blockX ?_ | refine blockM rfl ?_
      -- region 6
      refine AWp.rend E_ok [0, 1, 4, 5, 7, 8, 9, 16] fun K hK => ?_
      simp [encInts_eq, h9, hx, hxx, h16]
      repeat refine ⟨by first | omega | assumption | decide | (simp only [maxLen]; omega), ?_⟩
      refine hK _ ?_
      clear hK K
      repeat first | refine thenN ?_ | refine thenX ?_ | refine thenR ?_ | refine blockN ?_ | refine blockR ?_ | refine blockX ?_ | refine blockM rfl ?_
      have hw : IntKind.i64.wrap ((k : Int) + 1) = (k : Int) + 1 := by rw [wrap_i64] <;> omega
      simp [idxF, h16] at hs
      refine ⟨_, h9, hs, ?_, ?_⟩
      · first | exact trivial | (simp; omega) | simp
      · simp [Weak, TW, hw, encInts_eq]
  · try simp at h9
    obtain rfl : k = l.length := by omega
    simp [idxF] at hs
    refine AWp.exit ?_
    repeat first | refine thenN ?_ | refine thenX ?_ | refine thenR ?_ | refine blockN ?_ | refine blockR ?_ | refine blockX ?_ | refine blockM rfl ?_
    -- region 7
    refine AWp.rseq E_ok [0, 1, 4, 5, 7, 8, 9, 16] fun K hK => ?_
    simp [encInts_eq, h9]
    repeat refine ⟨by first | omega | assumption | decide | (simp only [maxLen]; omega), ?_⟩
    refine hK _ ?_
    clear hK K
    refine AWp.ret ?_
    repeat first | refine thenN ?_ | refine thenX ?_ | refine thenR ?_ | refine blockN ?_ | refine blockR ?_ | refine blockX ?_ | refine blockM rfl ?_
    first | (simp [RetOk, RV, ← hs]; done) | (simp [RetOk, RV, ← hs, hi])
end Go.Proofs.Ytkmcchcdmdooiaa

set_option maxRecDepth 100000
set_option linter.unusedSimpArgs false
set_option linter.unusedVariables false
namespace Go.Proofs.Ytkmcchcdmdooiaa
open Go Ab Lib
theorem slices_ContainsFunc_int_int (l : List Int) (f : Nat) (caps : List D) (p : Int → Bool) (hp : ∀ n, ACalls E.P f (.int .i64 n :: caps) (.d (.bool (p n)))) : ACalls E.P 21 [encInts l, .fn f caps] (.d (.bool (l.any p))) := by
  refine ACalls.intro E_ok Try.func21 rfl rfl Try.ntmps21 Try.results21 (Nat.le_of_ble_eq_true rfl) fun hok base S0 w0 => ?_
  -- region 0
  refine AWp.rseq E_ok [0, 1, 4] fun K hK => ?_
  simp [encInts_eq]
  repeat refine ⟨by first | omega | assumption | decide | (simp only [maxLen]; omega), ?_⟩
  refine hK _ ?_
  clear hK K
  -- region 1
  refine AWp.rseq E_ok [0, 1, 4] fun K hK => ?_
  simp [encInts_eq]
  refine meet.of (slices_IndexFunc_int_int _ _ _ _ hp) ?_
  simp [encInts_eq]
  repeat refine ⟨by first | omega | assumption | decide | (simp only [maxLen]; omega), ?_⟩
  refine hK _ ?_
  clear hK K
  refine AWp.ret ?_
  repeat first | refine thenN ?_ | refine thenX ?_ | refine thenR ?_ | refine blockN ?_ | refine blockR ?_ | refine blockX ?_ | refine blockM rfl ?_
  simp [RetOk, RV, idxF_any]
end Go.Proofs.Ytkmcchcdmdooiaa

set_option maxRecDepth 100000
set_option linter.unusedSimpArgs false
set_option linter.unusedVariables false
namespace Go.Proofs.Ytkmcchcdmdooiaa
open Go Ab Lib
theorem calendar_Right_1 (n : Int) : ACalls E.P 22 [.int .i64 n] (.d (.bool (!isDay n))) := by
  refine ACalls.intro E_ok Try.func22 rfl rfl Try.ntmps22 Try.results22 (Nat.le_of_ble_eq_true rfl) fun hok base S0 w0 => ?_
  -- region 0
  refine AWp.rseq E_ok [0, 2] fun K hK => ?_
  simp
  repeat refine ⟨by first | omega | assumption | decide | (simp only [maxLen]; omega), ?_⟩
  refine hK _ ?_
  clear hK K
  -- region 1
  refine AWp.rseq E_ok [0, 2] fun K hK => ?_
  simp
  refine meet.of (calendar_isDay _) ?_
  simp
  repeat refine ⟨by first | omega | assumption | decide | (simp only [maxLen]; omega), ?_⟩
  refine hK _ ?_
  clear hK K
  refine AWp.ret ?_
  repeat first | refine thenN ?_ | refine thenX ?_ | refine thenR ?_ | refine blockN ?_ | refine blockR ?_ | refine blockX ?_ | refine blockM rfl ?_
  simp [RetOk, RV]
end Go.Proofs.Ytkmcchcdmdooiaa

set_option maxRecDepth 100000
set_option linter.unusedSimpArgs false
set_option linter.unusedVariables false
namespace Go.Proofs.Ytkmcchcdmdooiaa
open Go Ab Lib
theorem calendar_Right (c : Cal) : ACalls E.P 10 [encCal c] (.d (.int .i64 (calR c))) := by
  refine ACalls.intro E_ok Try.func10 rfl rfl Try.ntmps10 Try.results10 (Nat.le_of_ble_eq_true rfl) fun hok base S0 w0 => ?_
  have hl : c.closed.length ≤ 9223372036854775807 := cal_len (hok (encCal c) (by simp))
  -- region 0
  refine AWp.rseq E_ok [0, 1, 2, 3, 4, 5, 14, 19, 24, 25, 26, 27, 42] fun K hK => ?_
  simp [encCal_eq, encInts_eq]
  repeat refine ⟨by first | omega | assumption | decide | (simp only [maxLen]; omega), ?_⟩
  refine hK _ ?_
  clear hK K
  refine AWp.seq ?_
  refine AWp.block ?_
  -- region 1
  refine AWp.rseq E_ok [0, 1, 2, 3, 4, 5, 14, 19, 24, 25, 26, 27, 42] fun K hK => ?_
  simp [encCal_eq, encInts_eq]
  repeat refine ⟨by first | omega | assumption | decide | (simp only [maxLen]; omega), ?_⟩
  refine hK _ ?_
  clear hK K
  refine AWp.cond rfl (fun h5 => ?_) (fun h5 => ?_)
  · try simp at h5
    -- region 2
    refine AWp.rseq E_ok [0, 1, 2, 3, 4, 5, 14, 19, 24, 25, 26, 27, 42] fun K hK => ?_
    simp [encCal_eq, encInts_eq, h5]
    repeat refine ⟨by first | omega | assumption | decide | (simp only [maxLen]; omega), ?_⟩
    refine hK _ ?_
    clear hK K
    refine AWp.ret ?_
    repeat first | refine thenN ?_ | refine thenX ?_ | refine thenR ?_ | refine blockN ?_ | refine blockR ?_ | refine blockX ?_ | refine blockM rfl ?_
    first | (rw [cal1 h5]; simp [RetOk, RV]; done) | (rw [cal13 h5 h14]; simp [RetOk, RV]; done) | (rw [cal2 h5 h14 h19]; simp [RetOk, RV]; done) | (rw [calA h5 h14 h19]; simp [RetOk, RV, ← hs])
  · try simp at h5
    -- region 3
    refine AWp.rseq E_ok [0, 1, 2, 3, 4, 5, 14, 19, 24, 25, 26, 27, 42] fun K hK => ?_
    simp [encCal_eq, encInts_eq, h5]
    repeat refine ⟨by first | omega | assumption | decide | (simp only [maxLen]; omega), ?_⟩
    refine hK _ ?_
    clear hK K
    refine AWp.cond rfl (fun h14 => ?_) (fun h14 => ?_)
    · try simp at h14
      -- region 4
      refine AWp.rseq E_ok [0, 1, 2, 3, 4, 5, 14, 19, 24, 25, 26, 27, 42] fun K hK => ?_
      simp [encCal_eq, encInts_eq, h5, h14]
      repeat refine ⟨by first | omega | assumption | decide | (simp only [maxLen]; omega), ?_⟩
      refine hK _ ?_
      clear hK K
      refine AWp.ret ?_
      repeat first | refine thenN ?_ | refine thenX ?_ | refine thenR ?_ | refine blockN ?_ | refine blockR ?_ | refine blockX ?_ | refine blockM rfl ?_
      first | (rw [cal1 h5]; simp [RetOk, RV]; done) | (rw [cal13 h5 h14]; simp [RetOk, RV]; done) | (rw [cal2 h5 h14 h19]; simp [RetOk, RV]; done) | (rw [calA h5 h14 h19]; simp [RetOk, RV, ← hs])
    · try simp at h14
      -- region 5
      refine AWp.rseq E_ok [0, 1, 2, 3, 4, 5, 14, 19, 24, 25, 26, 27, 42] fun K hK => ?_
      simp [encCal_eq, encInts_eq, h5, h14]
      refine meet.of (slices_ContainsFunc_int_int c.closed 22 [] (fun n => !isDay n) (fun n => calendar_Right_1 n)) ?_
      simp [encCal_eq, encInts_eq, h5, h14]
      repeat refine ⟨by first | omega | assumption | decide | (simp only [maxLen]; omega), ?_⟩
      refine hK _ ?_
      clear hK K
      refine AWp.cond rfl (fun h19 => ?_) (fun h19 => ?_)
      · try simp at h19
        -- region 6
        refine AWp.rseq E_ok [0, 1, 2, 3, 4, 5, 14, 19, 24, 25, 26, 27, 42] fun K hK => ?_
        simp [encCal_eq, encInts_eq, h5, h14, h19]
        repeat refine ⟨by first | omega | assumption | decide | (simp only [maxLen]; omega), ?_⟩
        refine hK _ ?_
        clear hK K
        refine AWp.ret ?_
        repeat first | refine thenN ?_ | refine thenX ?_ | refine thenR ?_ | refine blockN ?_ | refine blockR ?_ | refine blockX ?_ | refine blockM rfl ?_
        first | (rw [cal1 h5]; simp [RetOk, RV]; done) | (rw [cal13 h5 h14]; simp [RetOk, RV]; done) | (rw [cal2 h5 h14 h19]; simp [RetOk, RV]; done) | (rw [calA h5 h14 h19]; simp [RetOk, RV, ← hs])
      · try simp at h19
        refine AWp.skip ?_
        repeat first | refine thenN ?_ | refine thenX ?_ | refine thenR ?_ | refine blockN ?_ | refine blockR ?_ | refine blockX ?_ | refine blockM rfl ?_
        refine AWp.seq ?_
        -- region 7
        refine AWp.rseq E_ok [0, 1, 2, 3, 4, 5, 14, 19, 24, 25, 26, 27, 42] fun K hK => ?_
        simp [encCal_eq, encInts_eq, h5, h14, h19]
        repeat refine ⟨by first | omega | assumption | decide | (simp only [maxLen]; omega), ?_⟩
        refine hK _ ?_
        clear hK K
        refine AWp.block ?_
        refine AWp.range (l := c.closed) (F := ascF) (tot := ascF none c.closed) (fun k y => match y with | pr => pr = if k = 0 then none else c.closed[k-1]?) (fun k y => match y with | pr => [(0, T.val (encCal c)), (1, T.box [C.d (.int .i64 c.week), C.d (encInts c.closed)]), (24, T.val (encInts c.closed)), (25, T.val (.int .i64 c.closed.length)), (26, T.val (.int .i64 k))]) (none) ?_ rfl ?_ ?_
        · simp [Weak, TW, encCal_eq, encInts_eq]
        · first | rfl | (simp [hx])
        rintro k pr hk hs hi
        try simp only at hi
        -- region 8
        refine AWp.rseq E_ok [0, 1, 2, 3, 4, 5, 14, 19, 24, 25, 26, 27, 42] fun K hK => ?_
        simp [encCal_eq, encInts_eq, h5, h14, h19]
        repeat refine ⟨by first | omega | assumption | decide | (simp only [maxLen]; omega), ?_⟩
        refine hK _ ?_
        clear hK K
        refine AWp.seq ?_
        refine AWp.cond rfl (fun h27 => ?_) (fun h27 => ?_)
        · try simp at h27
          obtain ⟨x, hx, hxx, hd⟩ := at_indexG (l := c.closed) h27
          rw [hd] at hs
          refine AWp.skip ?_
          repeat first | refine thenN ?_ | refine thenX ?_ | refine thenR ?_ | refine blockN ?_ | refine blockR ?_ | refine blockX ?_ | refine blockM rfl ?_
          refine AWp.seq ?_
          refine AWp.block ?_
          -- region 9
          refine AWp.rseq E_ok [0, 1, 2, 3, 4, 5, 14, 19, 24, 25, 26, 27, 42] fun K hK => ?_
          simp [encCal_eq, encInts_eq, h5, h14, h19, h27, hx, hxx]
          repeat refine ⟨by first | omega | assumption | decide | (simp only [maxLen]; omega), ?_⟩
          refine hK _ ?_
          clear hK K
          rcases Nat.eq_zero_or_pos k with hk0 | hk0
          · skip
            have hpr : pr = none := by simpa [hk0] using hi
            have hk1 : ¬ (0 < k) := by omega
            have hlo : lowId pr x = false := by rw [hpr]; rfl
            -- region 10
            refine AWp.rseq E_ok [0, 1, 2, 3, 4, 5, 14, 19, 24, 25, 26, 27, 42] fun K hK => ?_
            simp [encCal_eq, encInts_eq, h5, h14, h19, h27, hx, hxx, hk1]
            repeat refine ⟨by first | omega | assumption | decide | (simp only [maxLen]; omega), ?_⟩
            refine hK _ ?_
            clear hK K
            refine AWp.cond rfl (fun h42 => ?_) (fun h42 => ?_)
            · exact absurd h42 (by simp)
            · try simp at h42
              have hlo : lowId pr x = false := by rw [hpr]; first | rfl | simpa [lowId] using h42
              refine AWp.skip ?_
              repeat first | refine thenN ?_ | refine thenX ?_ | refine thenR ?_ | refine blockN ?_ | refine blockR ?_ | refine blockX ?_ | refine blockM rfl ?_
              -- region 12
              refine AWp.rend E_ok [0, 1, 2, 3, 4, 5, 14, 19, 24, 25, 26, 27, 42] fun K hK => ?_
              simp [encCal_eq, encInts_eq, h5, h14, h19, h27, hx, hxx, hk1, h42]
              repeat refine ⟨by first | omega | assumption | decide | (simp only [maxLen]; omega), ?_⟩
              refine hK _ ?_
              clear hK K
              repeat first | refine thenN ?_ | refine thenX ?_ | refine thenR ?_ | refine blockN ?_ | refine blockR ?_ | refine blockX ?_ | refine blockM rfl ?_
              have hw : IntKind.i64.wrap ((k : Int) + 1) = (k : Int) + 1 := by rw [wrap_i64] <;> omega
              simp [ascF, hlo] at hs
              refine ⟨_, h27, hs, ?_, ?_⟩
              · first | rfl | (simp [hx])
              · simp [Weak, TW, hw, encCal_eq, encInts_eq]
          · skip
            obtain ⟨j, hkj⟩ : ∃ j, k = j + 1 := ⟨k - 1, by omega⟩
            obtain ⟨y, hy1, hy2, _⟩ := at_indexG (l := c.closed) (k := j) (by omega)
            have hj0 : IntKind.i64.wrap ((k : Int) - 1) = (j : Int) := by rw [wrap_i64] <;> omega
            have hj1 : j < c.closed.length := by omega
            have hpr : pr = some y := by simpa [hkj, hy1] using hi
            -- region 10
            refine AWp.rseq E_ok [0, 1, 2, 3, 4, 5, 14, 19, 24, 25, 26, 27, 42] fun K hK => ?_
            simp [encCal_eq, encInts_eq, h5, h14, h19, h27, hx, hxx, hk0, hj0, hy1, hy2, hj1]
            repeat refine ⟨by first | omega | assumption | decide | (simp only [maxLen]; omega), ?_⟩
            refine hK _ ?_
            clear hK K
            refine AWp.cond rfl (fun h42 => ?_) (fun h42 => ?_)
            · try simp at h42
              have hlo : lowId pr x = true := by rw [hpr]; simpa [lowId] using h42
              -- region 11
              refine AWp.rseq E_ok [0, 1, 2, 3, 4, 5, 14, 19, 24, 25, 26, 27, 42] fun K hK => ?_
              simp [encCal_eq, encInts_eq, h5, h14, h19, h27, hx, hxx, hk0, hj0, hy1, hy2, hj1, h42]
              repeat refine ⟨by first | omega | assumption | decide | (simp only [maxLen]; omega), ?_⟩
              refine hK _ ?_
              clear hK K
              refine AWp.ret ?_
              repeat first | refine thenN ?_ | refine thenX ?_ | refine thenR ?_ | refine blockN ?_ | refine blockR ?_ | refine blockX ?_ | refine blockM rfl ?_
              first | simp [ascF, hlo] at hs | simp [ascF] at hs
              first | (rw [cal1 h5]; simp [RetOk, RV]; done) | (rw [cal13 h5 h14]; simp [RetOk, RV]; done) | (rw [cal2 h5 h14 h19]; simp [RetOk, RV]; done) | (rw [calA h5 h14 h19]; simp [RetOk, RV, ← hs])
            · try simp at h42
              have hlo : lowId pr x = false := by rw [hpr]; first | rfl | simpa [lowId] using h42
              refine AWp.skip ?_
              repeat first | refine thenN ?_ | refine thenX ?_ | refine thenR ?_ | refine blockN ?_ | refine blockR ?_ | refine blockX ?_ | refine blockM rfl ?_
              -- region 12
              refine AWp.rend E_ok [0, 1, 2, 3, 4, 5, 14, 19, 24, 25, 26, 27, 42] fun K hK => ?_
              simp [encCal_eq, encInts_eq, h5, h14, h19, h27, hx, hxx, hk0, hj0, hy1, hy2, hj1, h42]
              repeat refine ⟨by first | omega | assumption | decide | (simp only [maxLen]; omega), ?_⟩
              refine hK _ ?_
              clear hK K
              repeat first | refine thenN ?_ | refine thenX ?_ | refine thenR ?_ | refine blockN ?_ | refine blockR ?_ | refine blockX ?_ | refine blockM rfl ?_
              have hw : IntKind.i64.wrap ((k : Int) + 1) = (k : Int) + 1 := by rw [wrap_i64] <;> omega
              simp [ascF, hlo] at hs
              refine ⟨_, h27, hs, ?_, ?_⟩
              · first | rfl | (simp [hx])
              · simp [Weak, TW, hw, encCal_eq, encInts_eq]
        · try simp at h27
          obtain rfl : k = c.closed.length := by omega
          simp [ascF] at hs
          refine AWp.exit ?_
          repeat first | refine thenN ?_ | refine thenX ?_ | refine thenR ?_ | refine blockN ?_ | refine blockR ?_ | refine blockX ?_ | refine blockM rfl ?_
          -- region 13
          refine AWp.rseq E_ok [0, 1, 2, 3, 4, 5, 14, 19, 24, 25, 26, 27, 42] fun K hK => ?_
          simp [encCal_eq, encInts_eq, h5, h14, h19, h27]
          repeat refine ⟨by first | omega | assumption | decide | (simp only [maxLen]; omega), ?_⟩
          refine hK _ ?_
          clear hK K
          refine AWp.ret ?_
          repeat first | refine thenN ?_ | refine thenX ?_ | refine thenR ?_ | refine blockN ?_ | refine blockR ?_ | refine blockX ?_ | refine blockM rfl ?_
          first | (rw [cal1 h5]; simp [RetOk, RV]; done) | (rw [cal13 h5 h14]; simp [RetOk, RV]; done) | (rw [cal2 h5 h14 h19]; simp [RetOk, RV]; done) | (rw [calA h5 h14 h19]; simp [RetOk, RV, ← hs])
end Go.Proofs.Ytkmcchcdmdooiaa

set_option maxRecDepth 100000
set_option linter.unusedSimpArgs false
set_option linter.unusedVariables false
namespace Go.Proofs.Ytkmcchcdmdooiaa
open Go Ab Lib
theorem calendar_Open_x (d : Int) (b : Bool) (h : openR c1 d = b) : ACalls E.P 11 [encCal c1, .int .i64 d] (.d (.bool b)) := h ▸ calendar_Open c1 d (by decide +kernel)
theorem calendar_Count_x : ACalls E.P 19 [encCal c1, .int .i64 46340, .int .i64 46346] (.d (.int .i64 4)) := by
  have := calendar_Count c1 46340 46346 (by decide)
  rwa [show countR c1 46340 46346 = 4 by decide +kernel] at this
theorem calendar_Next_x : ACalls E.P 13 [encCal c1, .int .i64 46345] (.tup [.int .i64 46347, .int .i64 0]) := by
  have := calendar_Next c1 46345 (by decide +kernel)
  rwa [show nextR c1 46345 = (46347, 0) by decide +kernel] at this
theorem calendar_Before_x : ACalls E.P 15 [encCal c1, .int .i64 46346] (.tup [.int .i64 46344, .int .i64 0]) := by
  have := calendar_Before c1 46346 (by decide +kernel)
  rwa [show beforeR c1 46346 = (46344, 0) by decide +kernel] at this
theorem calendar_Later_x : ACalls E.P 17 [encCal c1, .int .i64 46340, .int .i64 2] (.tup [.int .i64 46343, .int .i64 0]) := by
  have := calendar_Later c1 46340 2 (by decide +kernel)
  rwa [show laterR c1 46340 2 = (46343, 0) by decide +kernel] at this
theorem calendar_Later_y : ACalls E.P 17 [encCal c1, .int .i64 46345, .int .i64 0] (.tup [.int .i64 46347, .int .i64 0]) := by
  have := calendar_Later c1 46345 0 (by decide +kernel)
  rwa [show laterR c1 46345 0 = (46347, 0) by decide +kernel] at this
theorem calendar_Right_x : ACalls E.P 10 [encCal ⟨127, []⟩] (.d (.int .i64 1)) := by
  have := calendar_Right ⟨127, []⟩
  rwa [show calR ⟨127, []⟩ = 1 by decide +kernel] at this

end Go.Proofs.Ytkmcchcdmdooiaa

set_option maxRecDepth 100000
set_option linter.unusedSimpArgs false
set_option linter.unusedVariables false
namespace Go.Proofs.Ytkmcchcdmdooiaa
open Go Ab Lib
theorem law26_alive  : ACalls E.P 8 [] (.d (.bool true)) := by
  refine ACalls.intro E_ok Try.func8 rfl rfl Try.ntmps8 Try.results8 (Nat.le_of_ble_eq_true rfl) fun hok base S0 w0 => ?_
  -- region 0
  refine AWp.rseq E_ok [0, 1, 2, 3, 4, 5, 23, 47] fun K hK => ?_
  simp [encCal_eq, encInts_eq]
  repeat refine ⟨by first | omega | assumption | decide | (simp only [maxLen]; omega), ?_⟩
  refine hK _ ?_
  clear hK K
  -- region 1
  refine AWp.rseq E_ok [0, 1, 2, 3, 4, 5, 23, 47] fun K hK => ?_
  simp [encCal_eq, encInts_eq]
  repeat refine ⟨by first | omega | assumption | decide | (simp only [maxLen]; omega), ?_⟩
  refine hK _ ?_
  clear hK K
  refine AWp.seq ?_
  -- region 2
  refine AWp.rseq E_ok [0, 1, 2, 3, 4, 5, 23, 47] fun K hK => ?_
  simp [encCal_eq, encInts_eq]
  refine meet.of (calendar_Open_x 46340 true (by decide +kernel)) ?_
  simp [encCal_eq, encInts_eq]
  refine meet.of (calendar_Open_x 46342 false (by decide +kernel)) ?_
  simp [encCal_eq, encInts_eq]
  refine meet.of (calendar_Open_x 46345 false (by decide +kernel)) ?_
  simp [encCal_eq, encInts_eq]
  refine meet.of (calendar_Count_x) ?_
  simp [encCal_eq, encInts_eq]
  repeat refine ⟨by first | omega | assumption | decide | (simp only [maxLen]; omega), ?_⟩
  refine hK _ ?_
  clear hK K
  refine AWp.cond rfl (fun h23 => ?_) (fun h23 => ?_)
  · exact absurd h23 (by simp)
  · try simp at h23
    refine AWp.skip ?_
    repeat first | refine thenN ?_ | refine thenX ?_ | refine thenR ?_ | refine blockN ?_ | refine blockR ?_ | refine blockX ?_ | refine blockM rfl ?_
    -- region 4
    refine AWp.rseq E_ok [0, 1, 2, 3, 4, 5, 23, 47] fun K hK => ?_
    simp [encCal_eq, encInts_eq]
    refine meet.of (calendar_Next_x) ?_
    simp [encCal_eq, encInts_eq]
    repeat refine ⟨by first | omega | assumption | decide | (simp only [maxLen]; omega), ?_⟩
    refine hK _ ?_
    clear hK K
    -- region 5
    refine AWp.rseq E_ok [0, 1, 2, 3, 4, 5, 23, 47] fun K hK => ?_
    simp [encCal_eq, encInts_eq]
    refine meet.of (calendar_Before_x) ?_
    simp [encCal_eq, encInts_eq]
    repeat refine ⟨by first | omega | assumption | decide | (simp only [maxLen]; omega), ?_⟩
    refine hK _ ?_
    clear hK K
    refine AWp.seq ?_
    -- region 6
    refine AWp.rseq E_ok [0, 1, 2, 3, 4, 5, 23, 47] fun K hK => ?_
    simp [encCal_eq, encInts_eq]
    repeat refine ⟨by first | omega | assumption | decide | (simp only [maxLen]; omega), ?_⟩
    refine hK _ ?_
    clear hK K
    refine AWp.cond rfl (fun h47 => ?_) (fun h47 => ?_)
    · exact absurd h47 (by simp)
    · try simp at h47
      refine AWp.skip ?_
      repeat first | refine thenN ?_ | refine thenX ?_ | refine thenR ?_ | refine blockN ?_ | refine blockR ?_ | refine blockX ?_ | refine blockM rfl ?_
      -- region 8
      refine AWp.rseq E_ok [0, 1, 2, 3, 4, 5, 23, 47] fun K hK => ?_
      simp [encCal_eq, encInts_eq]
      refine meet.of (calendar_Later_x) ?_
      simp [encCal_eq, encInts_eq]
      repeat refine ⟨by first | omega | assumption | decide | (simp only [maxLen]; omega), ?_⟩
      refine hK _ ?_
      clear hK K
      -- region 9
      refine AWp.rseq E_ok [0, 1, 2, 3, 4, 5, 23, 47] fun K hK => ?_
      simp [encCal_eq, encInts_eq]
      refine meet.of (calendar_Later_y) ?_
      simp [encCal_eq, encInts_eq]
      repeat refine ⟨by first | omega | assumption | decide | (simp only [maxLen]; omega), ?_⟩
      refine hK _ ?_
      clear hK K
      -- region 10
      refine AWp.rseq E_ok [0, 1, 2, 3, 4, 5, 23, 47] fun K hK => ?_
      simp [encCal_eq, encInts_eq]
      refine meet.of (calendar_Right_x) ?_
      simp [encCal_eq, encInts_eq]
      repeat refine ⟨by first | omega | assumption | decide | (simp only [maxLen]; omega), ?_⟩
      refine hK _ ?_
      clear hK K
      refine AWp.ret ?_
      repeat first | refine thenN ?_ | refine thenX ?_ | refine thenR ?_ | refine blockN ?_ | refine blockR ?_ | refine blockX ?_ | refine blockM rfl ?_
      simp [RetOk, RV]
end Go.Proofs.Ytkmcchcdmdooiaa

set_option maxRecDepth 100000
set_option linter.unusedSimpArgs false
set_option linter.unusedVariables false
namespace Go.Proofs.Ytkmcchcdmdooiaa
open Go Ab Lib
theorem ref03_Is (n : Int) : ACalls E.P 33 [.int .i64 n] (.d (.bool (isDay n))) := by
  refine ACalls.intro E_ok Try.func33 rfl rfl Try.ntmps33 Try.results33 (Nat.le_of_ble_eq_true rfl) fun hok base S0 w0 => ?_
  -- region 0
  refine AWp.rseq E_ok [0, 2] fun K hK => ?_
  simp
  repeat refine ⟨by first | omega | assumption | decide | (simp only [maxLen]; omega), ?_⟩
  refine hK _ ?_
  clear hK K
  -- region 1
  refine AWp.rseq E_ok [0, 2] fun K hK => ?_
  simp
  repeat refine ⟨by first | omega | assumption | decide | (simp only [maxLen]; omega), ?_⟩
  refine hK _ ?_
  clear hK K
  refine AWp.ret ?_
  repeat first | refine thenN ?_ | refine thenX ?_ | refine thenR ?_ | refine blockN ?_ | refine blockR ?_ | refine blockX ?_ | refine blockM rfl ?_
  simp [RetOk, RV, isDay]
end Go.Proofs.Ytkmcchcdmdooiaa

set_option maxRecDepth 100000
set_option linter.unusedSimpArgs false
set_option linter.unusedVariables false
namespace Go.Proofs.Ytkmcchcdmdooiaa
open Go Ab Lib
theorem ref03_Weekday (n : Int) : ACalls E.P 27 [.int .i64 n] (.d (.int .i64 (wday n))) := by
  refine ACalls.intro E_ok Try.func27 rfl rfl Try.ntmps27 Try.results27 (Nat.le_of_ble_eq_true rfl) fun hok base S0 w0 => ?_
  -- region 0
  refine AWp.rseq E_ok [0, 2, 5] fun K hK => ?_
  simp
  repeat refine ⟨by first | omega | assumption | decide | (simp only [maxLen]; omega), ?_⟩
  refine hK _ ?_
  clear hK K
  refine AWp.seq ?_
  -- region 1
  refine AWp.rseq E_ok [0, 2, 5] fun K hK => ?_
  simp
  refine meet.of (ref03_Is _) ?_
  simp
  repeat refine ⟨by first | omega | assumption | decide | (simp only [maxLen]; omega), ?_⟩
  refine hK _ ?_
  clear hK K
  refine AWp.cond rfl (fun h5 => ?_) (fun h5 => ?_)
  · try simp at h5
    -- region 2
    refine AWp.rseq E_ok [0, 2, 5] fun K hK => ?_
    simp [h5]
    repeat refine ⟨by first | omega | assumption | decide | (simp only [maxLen]; omega), ?_⟩
    refine hK _ ?_
    clear hK K
    refine AWp.ret ?_
    repeat first | refine thenN ?_ | refine thenX ?_ | refine thenR ?_ | refine blockN ?_ | refine blockR ?_ | refine blockX ?_ | refine blockM rfl ?_
    simp [RetOk, RV, wday, h5]
  · try simp at h5
    refine AWp.skip ?_
    repeat first | refine thenN ?_ | refine thenX ?_ | refine thenR ?_ | refine blockN ?_ | refine blockR ?_ | refine blockX ?_ | refine blockM rfl ?_
    -- region 3
    refine AWp.rseq E_ok [0, 2, 5] fun K hK => ?_
    simp [h5]
    repeat refine ⟨by first | omega | assumption | decide | (simp only [maxLen]; omega), ?_⟩
    refine hK _ ?_
    clear hK K
    refine AWp.ret ?_
    repeat first | refine thenN ?_ | refine thenX ?_ | refine thenR ?_ | refine blockN ?_ | refine blockR ?_ | refine blockX ?_ | refine blockM rfl ?_
    simp [RetOk, RV, wday, h5]
end Go.Proofs.Ytkmcchcdmdooiaa

set_option maxRecDepth 100000
set_option linter.unusedSimpArgs false
set_option linter.unusedVariables false
namespace Go.Proofs.Ytkmcchcdmdooiaa
open Go Ab Lib
theorem ref26_Open (c : Cal) (d : Int) (hcl : c.closed.length ≤ 1000000) : ACalls E.P 12 [encCal c, .int .i64 d] (.d (.bool (openR c d))) := by
  refine ACalls.intro E_ok Try.func12 rfl rfl Try.ntmps12 Try.results12 (Nat.le_of_ble_eq_true rfl) fun hok base S0 w0 => ?_
  -- region 0
  refine AWp.rseq E_ok [0, 1, 2, 4, 5, 6, 7, 8, 14, 21, 28, 33, 42] fun K hK => ?_
  simp [encCal_eq, encInts_eq]
  repeat refine ⟨by first | omega | assumption | decide | (simp only [maxLen]; omega), ?_⟩
  refine hK _ ?_
  clear hK K
  refine AWp.seq ?_
  -- region 1
  refine AWp.rseq E_ok [0, 1, 2, 4, 5, 6, 7, 8, 14, 21, 28, 33, 42] fun K hK => ?_
  simp [encCal_eq, encInts_eq]
  repeat refine ⟨by first | omega | assumption | decide | (simp only [maxLen]; omega), ?_⟩
  refine hK _ ?_
  clear hK K
  refine AWp.cond rfl (fun h14 => ?_) (fun h14 => ?_)
  · try simp at h14
    -- region 2
    refine AWp.rseq E_ok [0, 1, 2, 4, 5, 6, 7, 8, 14, 21, 28, 33, 42] fun K hK => ?_
    simp [encCal_eq, encInts_eq, h14]
    repeat refine ⟨by first | omega | assumption | decide | (simp only [maxLen]; omega), ?_⟩
    refine hK _ ?_
    clear hK K
    refine AWp.ret ?_
    repeat first | refine thenN ?_ | refine thenX ?_ | refine thenR ?_ | refine blockN ?_ | refine blockR ?_ | refine blockX ?_ | refine blockM rfl ?_
    first | (rw [openR_out h14]; simp [RetOk, RV]; done) | (rw [openR_week h14 h28]; simp [RetOk, RV]; done) | (rw [openR_in h14 h28]; simp [RetOk, RV, ← hs])
  · try simp at h14
    have hw7 := wday_rng h14.1 h14.2
    refine AWp.skip ?_
    repeat first | refine thenN ?_ | refine thenX ?_ | refine thenR ?_ | refine blockN ?_ | refine blockR ?_ | refine blockX ?_ | refine blockM rfl ?_
    -- region 3
    refine AWp.rseq E_ok [0, 1, 2, 4, 5, 6, 7, 8, 14, 21, 28, 33, 42] fun K hK => ?_
    simp [encCal_eq, encInts_eq, h14]
    repeat refine ⟨by first | omega | assumption | decide | (simp only [maxLen]; omega), ?_⟩
    refine hK _ ?_
    clear hK K
    -- region 4
    refine AWp.rseq E_ok [0, 1, 2, 4, 5, 6, 7, 8, 14, 21, 28, 33, 42] fun K hK => ?_
    simp [encCal_eq, encInts_eq, h14]
    refine meet.of (ref03_Weekday d) ?_
    simp [encCal_eq, encInts_eq, h14]
    repeat refine ⟨by first | omega | assumption | decide | (simp only [maxLen]; omega), ?_⟩
    refine hK _ ?_
    clear hK K
    refine AWp.seq ?_
    -- region 5
    refine AWp.rseq E_ok [0, 1, 2, 4, 5, 6, 7, 8, 14, 21, 28, 33, 42] fun K hK => ?_
    simp [encCal_eq, encInts_eq, h14]
    repeat refine ⟨by first | omega | assumption | decide | (simp only [maxLen]; omega), ?_⟩
    refine hK _ ?_
    clear hK K
    refine AWp.block ?_
    refine AWp.loop (ι := { k : Nat // k ≤ (wday d).toNat }) (fun x => match x with | ⟨k, hk⟩ => [(1, T.val (.int .i64 d)), (2, T.box [C.d (.int .i64 c.week), C.d (encInts c.closed)]), (5, T.val (.int .i64 (hv k c.week))), (6, T.val (.int .i64 (wday d))), (7, T.val (.int .i64 k))]) (fun x => match x with | ⟨k, hk⟩ => (wday d).toNat - k) ⟨0, by omega⟩ ?_ ?_
    · simp [Weak, TW, encCal_eq, encInts_eq]
    rintro ⟨k, hk⟩
    simp only
    try simp only at hk
    refine AWp.seq ?_
    -- region 6
    refine AWp.rseq E_ok [0, 1, 2, 4, 5, 6, 7, 8, 14, 21, 28, 33, 42] fun K hK => ?_
    simp [encCal_eq, encInts_eq, h14]
    repeat refine ⟨by first | omega | assumption | decide | (simp only [maxLen]; omega), ?_⟩
    refine hK _ ?_
    clear hK K
    refine AWp.cond rfl (fun h21 => ?_) (fun h21 => ?_)
    · try simp at h21
      refine AWp.skip ?_
      repeat first | refine thenN ?_ | refine thenX ?_ | refine thenR ?_ | refine blockN ?_ | refine blockR ?_ | refine blockX ?_ | refine blockM rfl ?_
      refine AWp.seq ?_
      refine AWp.block ?_
      -- region 8
      refine AWp.rend E_ok [0, 1, 2, 4, 5, 6, 7, 8, 14, 21, 28, 33, 42] fun K hK => ?_
      simp [encCal_eq, encInts_eq, h14, h21]
      repeat refine ⟨by first | omega | assumption | decide | (simp only [maxLen]; omega), ?_⟩
      refine hK _ ?_
      clear hK K
      repeat first | refine thenN ?_ | refine thenX ?_ | refine thenR ?_ | refine blockN ?_ | refine blockR ?_ | refine blockX ?_ | refine blockM rfl ?_
      -- region 7
      refine AWp.rend E_ok [0, 1, 2, 4, 5, 6, 7, 8, 14, 21, 28, 33, 42] fun K hK => ?_
      simp [encCal_eq, encInts_eq, h14, h21]
      repeat refine ⟨by first | omega | assumption | decide | (simp only [maxLen]; omega), ?_⟩
      refine hK _ ?_
      clear hK K
      repeat first | refine thenN ?_ | refine thenX ?_ | refine thenR ?_ | refine blockN ?_ | refine blockR ?_ | refine blockX ?_ | refine blockM rfl ?_
      have hw : IntKind.i64.wrap ((k : Int) + 1) = (k : Int) + 1 := by rw [wrap_i64] <;> omega
      refine ⟨⟨k + 1, by omega⟩, ?_, by simp only; omega⟩
      simp [Weak, TW, encCal_eq, encInts_eq, hv, hw]
    · try simp at h21
      obtain rfl : k = (wday d).toNat := by omega
      refine AWp.exit ?_
      repeat first | refine thenN ?_ | refine thenX ?_ | refine thenR ?_ | refine blockN ?_ | refine blockR ?_ | refine blockX ?_ | refine blockM rfl ?_
      refine AWp.seq ?_
      -- region 9
      refine AWp.rseq E_ok [0, 1, 2, 4, 5, 6, 7, 8, 14, 21, 28, 33, 42] fun K hK => ?_
      simp [encCal_eq, encInts_eq, h14, h21]
      repeat refine ⟨by first | omega | assumption | decide | (simp only [maxLen]; omega), ?_⟩
      refine hK _ ?_
      clear hK K
      refine AWp.cond rfl (fun h28 => ?_) (fun h28 => ?_)
      · try simp at h28
        -- region 10
        refine AWp.rseq E_ok [0, 1, 2, 4, 5, 6, 7, 8, 14, 21, 28, 33, 42] fun K hK => ?_
        simp [encCal_eq, encInts_eq, h14, h21, h28]
        repeat refine ⟨by first | omega | assumption | decide | (simp only [maxLen]; omega), ?_⟩
        refine hK _ ?_
        clear hK K
        refine AWp.ret ?_
        repeat first | refine thenN ?_ | refine thenX ?_ | refine thenR ?_ | refine blockN ?_ | refine blockR ?_ | refine blockX ?_ | refine blockM rfl ?_
        first | (rw [openR_out h14]; simp [RetOk, RV]; done) | (rw [openR_week h14 h28]; simp [RetOk, RV]; done) | (rw [openR_in h14 h28]; simp [RetOk, RV, ← hs])
      · try simp at h28
        refine AWp.skip ?_
        repeat first | refine thenN ?_ | refine thenX ?_ | refine thenR ?_ | refine blockN ?_ | refine blockR ?_ | refine blockX ?_ | refine blockM rfl ?_
        refine AWp.seq ?_
        -- region 11
        refine AWp.rseq E_ok [0, 1, 2, 4, 5, 6, 7, 8, 14, 21, 28, 33, 42] fun K hK => ?_
        simp [encCal_eq, encInts_eq, h14, h21, h28]
        repeat refine ⟨by first | omega | assumption | decide | (simp only [maxLen]; omega), ?_⟩
        refine hK _ ?_
        clear hK K
        refine AWp.block ?_
        refine AWp.range (l := c.closed) (F := anyF d) (tot := anyF d () c.closed) (fun k y => match y with | _u => True) (fun k y => match y with | _u => [(1, T.val (.int .i64 d)), (2, T.box [C.d (.int .i64 c.week), C.d (encInts c.closed)]), (8, T.val (.int .i64 k))]) () ?_ rfl ?_ ?_
        · simp [Weak, TW, encCal_eq, encInts_eq]
        · first | exact trivial | (simp; omega) | simp
        rintro k _u hk hs hi
        try simp only at hi
        refine AWp.seq ?_
        -- region 12
        refine AWp.rseq E_ok [0, 1, 2, 4, 5, 6, 7, 8, 14, 21, 28, 33, 42] fun K hK => ?_
        simp [encCal_eq, encInts_eq, h14, h21, h28]
        repeat refine ⟨by first | omega | assumption | decide | (simp only [maxLen]; omega), ?_⟩
        refine hK _ ?_
        clear hK K
        refine AWp.cond rfl (fun h33 => ?_) (fun h33 => ?_)
        · try simp at h33
          obtain ⟨x, hx, hxx, hd⟩ := at_indexG (l := c.closed) h33
          rw [hd] at hs
          refine AWp.skip ?_
          repeat first | refine thenN ?_ | refine thenX ?_ | refine thenR ?_ | refine blockN ?_ | refine blockR ?_ | refine blockX ?_ | refine blockM rfl ?_
          refine AWp.seq ?_
          refine AWp.block ?_
          -- region 14
          refine AWp.rseq E_ok [0, 1, 2, 4, 5, 6, 7, 8, 14, 21, 28, 33, 42] fun K hK => ?_
          simp [encCal_eq, encInts_eq, h14, h21, h28, h33, hx, hxx]
          repeat refine ⟨by first | omega | assumption | decide | (simp only [maxLen]; omega), ?_⟩
          refine hK _ ?_
          clear hK K
          refine AWp.cond rfl (fun h42 => ?_) (fun h42 => ?_)
          · try simp at h42
            -- region 15
            refine AWp.rseq E_ok [0, 1, 2, 4, 5, 6, 7, 8, 14, 21, 28, 33, 42] fun K hK => ?_
            simp [encCal_eq, encInts_eq, h14, h21, h28, h33, hx, hxx, h42]
            repeat refine ⟨by first | omega | assumption | decide | (simp only [maxLen]; omega), ?_⟩
            refine hK _ ?_
            clear hK K
            refine AWp.ret ?_
            repeat first | refine thenN ?_ | refine thenX ?_ | refine thenR ?_ | refine blockN ?_ | refine blockR ?_ | refine blockX ?_ | refine blockM rfl ?_
            simp [anyF, h14, h21, h28, h42] at hs
            first | (rw [openR_out h14]; simp [RetOk, RV]; done) | (rw [openR_week h14 h28]; simp [RetOk, RV]; done) | (rw [openR_in h14 h28]; simp [RetOk, RV, ← hs])
          · try simp at h42
            refine AWp.skip ?_
            repeat first | refine thenN ?_ | refine thenX ?_ | refine thenR ?_ | refine blockN ?_ | refine blockR ?_ | refine blockX ?_ | refine blockM rfl ?_
            -- region 13
            refine AWp.rend E_ok [0, 1, 2, 4, 5, 6, 7, 8, 14, 21, 28, 33, 42] fun K hK => ?_
            simp [encCal_eq, encInts_eq, h14, h21, h28, h33, hx, hxx, h42]
            repeat refine ⟨by first | omega | assumption | decide | (simp only [maxLen]; omega), ?_⟩
            refine hK _ ?_
            clear hK K
            repeat first | refine thenN ?_ | refine thenX ?_ | refine thenR ?_ | refine blockN ?_ | refine blockR ?_ | refine blockX ?_ | refine blockM rfl ?_
            have hw : IntKind.i64.wrap ((k : Int) + 1) = (k : Int) + 1 := by rw [wrap_i64] <;> omega
            simp [anyF, h14, h21, h28, h42] at hs
            refine ⟨_, h33, hs, ?_, ?_⟩
            · first | exact trivial | (simp; omega) | simp
            · simp [Weak, TW, hw, encCal_eq, encInts_eq]
        · try simp at h33
          obtain rfl : k = c.closed.length := by omega
          simp [anyF] at hs
          refine AWp.exit ?_
          repeat first | refine thenN ?_ | refine thenX ?_ | refine thenR ?_ | refine blockN ?_ | refine blockR ?_ | refine blockX ?_ | refine blockM rfl ?_
          -- region 16
          refine AWp.rseq E_ok [0, 1, 2, 4, 5, 6, 7, 8, 14, 21, 28, 33, 42] fun K hK => ?_
          simp [encCal_eq, encInts_eq, h14, h21, h28, h33]
          repeat refine ⟨by first | omega | assumption | decide | (simp only [maxLen]; omega), ?_⟩
          refine hK _ ?_
          clear hK K
          refine AWp.ret ?_
          repeat first | refine thenN ?_ | refine thenX ?_ | refine thenR ?_ | refine blockN ?_ | refine blockR ?_ | refine blockX ?_ | refine blockM rfl ?_
          first | (rw [openR_out h14]; simp [RetOk, RV]; done) | (rw [openR_week h14 h28]; simp [RetOk, RV]; done) | (rw [openR_in h14 h28]; simp [RetOk, RV, ← hs])
end Go.Proofs.Ytkmcchcdmdooiaa

set_option maxRecDepth 100000
set_option linter.unusedSimpArgs false
set_option linter.unusedVariables false
namespace Go.Proofs.Ytkmcchcdmdooiaa
open Go Ab Lib
theorem ref26_Count (c : Cal) (f t : Int) (hcl : c.closed.length ≤ 1000000) : ACalls E.P 20 [encCal c, .int .i64 f, .int .i64 t] (.d (.int .i64 (countD c f t))) := by
  refine ACalls.intro E_ok Try.func20 rfl rfl Try.ntmps20 Try.results20 (Nat.le_of_ble_eq_true rfl) fun hok base S0 w0 => ?_
  -- region 0
  refine AWp.rseq E_ok [0, 1, 2, 3, 6, 7, 8, 14, 19] fun K hK => ?_
  simp [encCal_eq, encInts_eq]
  repeat refine ⟨by first | omega | assumption | decide | (simp only [maxLen]; omega), ?_⟩
  refine hK _ ?_
  clear hK K
  -- region 1
  refine AWp.rseq E_ok [0, 1, 2, 3, 6, 7, 8, 14, 19] fun K hK => ?_
  simp [encCal_eq, encInts_eq]
  repeat refine ⟨by first | omega | assumption | decide | (simp only [maxLen]; omega), ?_⟩
  refine hK _ ?_
  clear hK K
  refine AWp.seq ?_
  -- region 2
  generalize hhi : (if 109572 < t then 109572 else t) = hi'
  have hhi0 : hi' ≤ 109572 := by rw [← hhi]; split <;> omega
  refine AWp.rseq E_ok [0, 1, 2, 3, 6, 7, 8, 14, 19] fun K hK => ?_
  simp [encCal_eq, encInts_eq]
  repeat refine ⟨by first | omega | assumption | decide | (simp only [maxLen]; omega), ?_⟩
  refine hK _ ?_
  clear hK K
  generalize hlo : (if f < 0 then 0 else f) = lo
  have hlo0 : 0 ≤ lo := by rw [← hlo]; split <;> omega
  refine AWp.block ?_
  refine AWp.loop (ι := { x : Int × Int // lo ≤ x.1 ∧ cntN c (hi' + 1 - x.1).toNat x.1 x.2 = cntN c (hi' + 1 - lo).toNat lo 0 }) (fun x => match x with | ⟨⟨d, n⟩, hd, hs⟩ => [(2, T.val (.int .i64 t)), (3, T.box [C.d (.int .i64 c.week), C.d (encInts c.closed)]), (7, T.val (.int .i64 n)), (8, T.val (.int .i64 d))]) (fun x => match x with | ⟨⟨d, n⟩, hd, hs⟩ => (hi' + 1 - d).toNat) ⟨(lo, 0), Int.le_refl _, rfl⟩ ?_ ?_
  · simp [Weak, TW, encCal_eq, encInts_eq]
  rintro ⟨⟨d, n⟩, hd, hs⟩
  simp only
  try simp only at hd
  try simp only at hs
  refine AWp.seq ?_
  -- region 3
  refine AWp.rseq E_ok [0, 1, 2, 3, 6, 7, 8, 14, 19] fun K hK => ?_
  simp [encCal_eq, encInts_eq]
  repeat refine ⟨by first | omega | assumption | decide | (simp only [maxLen]; omega), ?_⟩
  refine hK _ ?_
  clear hK K
  refine AWp.cond rfl (fun h14 => ?_) (fun h14 => ?_)
  · try simp at h14
    rw [hhi] at h14
    refine AWp.skip ?_
    repeat first | refine thenN ?_ | refine thenX ?_ | refine thenR ?_ | refine blockN ?_ | refine blockR ?_ | refine blockX ?_ | refine blockM rfl ?_
    refine AWp.seq ?_
    refine AWp.block ?_
    -- region 5
    refine AWp.rseq E_ok [0, 1, 2, 3, 6, 7, 8, 14, 19] fun K hK => ?_
    simp [encCal_eq, encInts_eq, h14]
    refine meet.of (ref26_Open c d (by omega)) ?_
    simp [encCal_eq, encInts_eq, h14]
    repeat refine ⟨by first | omega | assumption | decide | (simp only [maxLen]; omega), ?_⟩
    refine hK _ ?_
    clear hK K
    refine AWp.cond rfl (fun h19 => ?_) (fun h19 => ?_)
    · try simp at h19
      -- region 6
      refine AWp.rend E_ok [0, 1, 2, 3, 6, 7, 8, 14, 19] fun K hK => ?_
      simp [encCal_eq, encInts_eq, h14, h19]
      repeat refine ⟨by first | omega | assumption | decide | (simp only [maxLen]; omega), ?_⟩
      refine hK _ ?_
      clear hK K
      repeat first | refine thenN ?_ | refine thenX ?_ | refine thenR ?_ | refine blockN ?_ | refine blockR ?_ | refine blockX ?_ | refine blockM rfl ?_
      -- region 4
      refine AWp.rend E_ok [0, 1, 2, 3, 6, 7, 8, 14, 19] fun K hK => ?_
      simp [encCal_eq, encInts_eq, h14, h19]
      repeat refine ⟨by first | omega | assumption | decide | (simp only [maxLen]; omega), ?_⟩
      refine hK _ ?_
      clear hK K
      repeat first | refine thenN ?_ | refine thenX ?_ | refine thenR ?_ | refine blockN ?_ | refine blockR ?_ | refine blockX ?_ | refine blockM rfl ?_
      have hw : IntKind.i64.wrap (d + 1) = d + 1 := by rw [wrap_i64] <;> omega
      have hz : (hi' + 1 - d).toNat = (hi' + 1 - (d + 1)).toNat + 1 := by omega
      rw [hz, cntN] at hs
      refine ⟨⟨(d + 1, if openR c d = true then IntKind.i64.wrap (n + 1) else n), by simp only at hd ⊢; omega, hs⟩, ?_, by simp only; omega⟩
      simp [Weak, TW, encCal_eq, encInts_eq, hw, h19]
    · try simp at h19
      refine AWp.skip ?_
      repeat first | refine thenN ?_ | refine thenX ?_ | refine thenR ?_ | refine blockN ?_ | refine blockR ?_ | refine blockX ?_ | refine blockM rfl ?_
      -- region 4
      refine AWp.rend E_ok [0, 1, 2, 3, 6, 7, 8, 14, 19] fun K hK => ?_
      simp [encCal_eq, encInts_eq, h14, h19]
      repeat refine ⟨by first | omega | assumption | decide | (simp only [maxLen]; omega), ?_⟩
      refine hK _ ?_
      clear hK K
      repeat first | refine thenN ?_ | refine thenX ?_ | refine thenR ?_ | refine blockN ?_ | refine blockR ?_ | refine blockX ?_ | refine blockM rfl ?_
      have hw : IntKind.i64.wrap (d + 1) = d + 1 := by rw [wrap_i64] <;> omega
      have hz : (hi' + 1 - d).toNat = (hi' + 1 - (d + 1)).toNat + 1 := by omega
      rw [hz, cntN] at hs
      refine ⟨⟨(d + 1, if openR c d = true then IntKind.i64.wrap (n + 1) else n), by simp only at hd ⊢; omega, hs⟩, ?_, by simp only; omega⟩
      simp [Weak, TW, encCal_eq, encInts_eq, hw, h19]
  · try simp at h14
    rw [hhi] at h14
    have hz : (hi' + 1 - d).toNat = 0 := by omega
    rw [hz, cntN] at hs
    try simp only at hs
    refine AWp.exit ?_
    repeat first | refine thenN ?_ | refine thenX ?_ | refine thenR ?_ | refine blockN ?_ | refine blockR ?_ | refine blockX ?_ | refine blockM rfl ?_
    -- region 7
    refine AWp.rseq E_ok [0, 1, 2, 3, 6, 7, 8, 14, 19] fun K hK => ?_
    simp [encCal_eq, encInts_eq, h14]
    repeat refine ⟨by first | omega | assumption | decide | (simp only [maxLen]; omega), ?_⟩
    refine hK _ ?_
    clear hK K
    refine AWp.ret ?_
    repeat first | refine thenN ?_ | refine thenX ?_ | refine thenR ?_ | refine blockN ?_ | refine blockR ?_ | refine blockX ?_ | refine blockM rfl ?_
    rw [countD_eq hlo hhi]; simp [RetOk, RV, hs]
end Go.Proofs.Ytkmcchcdmdooiaa

set_option maxRecDepth 100000
set_option linter.unusedSimpArgs false
set_option linter.unusedVariables false
namespace Go.Proofs.Ytkmcchcdmdooiaa
open Go Ab Lib
theorem calendar_Count_c (c : Cal) (f t : Int) (hc : calR c = 0) : ACalls E.P 19 [encCal c, .int .i64 f, .int .i64 t] (.d (.int .i64 (cnt c f t))) := countR_cnt hc f t ▸ calendar_Count c f t (by have := cal_len64 hc; omega)
theorem ref26_Count_c (c : Cal) (f t : Int) (hcl : c.closed.length ≤ 1000000) : ACalls E.P 20 [encCal c, .int .i64 f, .int .i64 t] (.d (.int .i64 (cnt c f t))) := countD_cnt c f t ▸ ref26_Count c f t hcl

end Go.Proofs.Ytkmcchcdmdooiaa

set_option maxRecDepth 100000
set_option linter.unusedSimpArgs false
set_option linter.unusedVariables false
namespace Go.Proofs.Ytkmcchcdmdooiaa
open Go Ab Lib
theorem law26_CalendarSums (c : Cal) (f a b n : Int) : ACalls E.P 7 [encCal c, .int .i64 f, .int .u16 a, .int .u16 b, .int .u8 n] (.d (.bool true)) := by
  refine ACalls.intro E_ok Try.func7 rfl rfl Try.ntmps7 Try.results7 (Nat.le_of_ble_eq_true rfl) fun hok base S0 w0 => ?_
  -- region 0
  refine AWp.rseq E_ok [0, 1, 2, 3, 4, 5, 10, 11, 12, 13, 14, 16, 33, 58, 72] fun K hK => ?_
  simp [encCal_eq, encInts_eq]
  repeat refine ⟨by first | omega | assumption | decide | (simp only [maxLen]; omega), ?_⟩
  refine hK _ ?_
  clear hK K
  refine AWp.seq ?_
  -- region 1
  refine AWp.rseq E_ok [0, 1, 2, 3, 4, 5, 10, 11, 12, 13, 14, 16, 33, 58, 72] fun K hK => ?_
  simp [encCal_eq, encInts_eq]
  refine meet.of (law26_alive) ?_
  simp [encCal_eq, encInts_eq]
  repeat refine ⟨by first | omega | assumption | decide | (simp only [maxLen]; omega), ?_⟩
  refine hK _ ?_
  clear hK K
  refine AWp.cond rfl (fun h16 => ?_) (fun h16 => ?_)
  · exact absurd h16 (by simp)
  · try simp at h16
    refine AWp.skip ?_
    repeat first | refine thenN ?_ | refine thenX ?_ | refine thenR ?_ | refine blockN ?_ | refine blockR ?_ | refine blockX ?_ | refine blockM rfl ?_
    refine AWp.seq ?_
    -- region 3
    refine AWp.rseq E_ok [0, 1, 2, 3, 4, 5, 10, 11, 12, 13, 14, 16, 33, 58, 72] fun K hK => ?_
    simp [encCal_eq, encInts_eq]
    refine meet.of (calendar_Right c) ?_
    simp [encCal_eq, encInts_eq]
    repeat refine ⟨by first | omega | assumption | decide | (simp only [maxLen]; omega), ?_⟩
    refine hK _ ?_
    clear hK K
    refine AWp.cond rfl (fun h33 => ?_) (fun h33 => ?_)
    · try simp at h33
      -- region 4
      refine AWp.rseq E_ok [0, 1, 2, 3, 4, 5, 10, 11, 12, 13, 14, 16, 33, 58, 72] fun K hK => ?_
      simp [encCal_eq, encInts_eq]
      repeat refine ⟨by first | omega | assumption | decide | (simp only [maxLen]; omega), ?_⟩
      refine hK _ ?_
      clear hK K
      refine AWp.ret ?_
      repeat first | refine thenN ?_ | refine thenX ?_ | refine thenR ?_ | refine blockN ?_ | refine blockR ?_ | refine blockX ?_ | refine blockM rfl ?_
      first | (simp [RetOk, RV]; done) | (simp [RetOk, RV, ls.1, ls.2.1, ls.2.2])
    · try simp at h33
      have hc : calR c = 0 := h33.1.1.2
      have hd : 0 ≤ f ∧ f ≤ 109572 := by omega
      have ha := Ok_u16 (hok (.int .u16 a) (by simp))
      have hb := Ok_u16 (hok (.int .u16 b) (by simp))
      have hn := Ok_u8 (hok (.int .u8 n) (by simp))
      have e5 : IntKind.i64.wrap n = n := wrap_i64 (by omega) (by omega)
      have e4 : IntKind.i64.wrap (f + 1) = f + 1 := wrap_i64 (by omega) (by omega)
      obtain ⟨m, hm⟩ : ∃ m, m = f + a % 1000 := ⟨_, rfl⟩
      obtain ⟨t, ht⟩ : ∃ t, t = m + b % 1000 := ⟨_, rfl⟩
      have e1 : IntKind.i64.wrap (f + (IntKind.i64.wrap a).tmod 1000) = m := by rw [wrap_i64 (n := a) (by omega) (by omega), Int.tmod_eq_emod_of_nonneg (by omega), wrap_i64 (by omega) (by omega)]; omega
      have e2 : IntKind.i64.wrap (m + (IntKind.i64.wrap b).tmod 1000) = t := by rw [wrap_i64 (n := b) (by omega) (by omega), Int.tmod_eq_emod_of_nonneg (by omega), wrap_i64 (by omega) (by omega)]; omega
      have e3 : IntKind.i64.wrap (m + 1) = m + 1 := wrap_i64 (by omega) (by omega)
      have r1 := cnt_rng c f m
      have r2 := cnt_rng c (m + 1) t
      have r3 := cnt_rng c f t
      have hadd : IntKind.i64.wrap (cnt c f m + cnt c (m + 1) t) = cnt c f t := by rw [wrap_i64 (by omega) (by omega)]; exact cnt_add c hd.1 (by omega) (by omega)
      refine AWp.skip ?_
      repeat first | refine thenN ?_ | refine thenX ?_ | refine thenR ?_ | refine blockN ?_ | refine blockR ?_ | refine blockX ?_ | refine blockM rfl ?_
      -- region 5
      refine AWp.rseq E_ok [0, 1, 2, 3, 4, 5, 10, 11, 12, 13, 14, 16, 33, 58, 72] fun K hK => ?_
      simp [encCal_eq, encInts_eq, e1, e2, e3, e4, e5]
      repeat refine ⟨by first | omega | assumption | decide | (simp only [maxLen]; omega), ?_⟩
      refine hK _ ?_
      clear hK K
      -- region 6
      refine AWp.rseq E_ok [0, 1, 2, 3, 4, 5, 10, 11, 12, 13, 14, 16, 33, 58, 72] fun K hK => ?_
      simp [encCal_eq, encInts_eq, e1, e2, e3, e4, e5]
      repeat refine ⟨by first | omega | assumption | decide | (simp only [maxLen]; omega), ?_⟩
      refine hK _ ?_
      clear hK K
      refine AWp.seq ?_
      -- region 7
      refine AWp.rseqQ E_ok mixed [0, 1, 2, 3, 4, 5, 10, 11, 12, 13, 14, 16, 33, 58, 72] (by kernel_rfl) fun K hK => ?_
      simp [encCal_eq, encInts_eq, e1, e2, e3, e4, e5]
      repeat refine ⟨by first | omega | assumption | decide | (simp only [maxLen]; omega), ?_⟩
      refine meet.of (calendar_Count_c c f m hc) ?_
      simp [encCal_eq, encInts_eq, e1, e2, e3, e4, e5]
      repeat refine ⟨by first | omega | assumption | decide | (simp only [maxLen]; omega), ?_⟩
      refine meet.of (calendar_Count_c c (m + 1) t hc) ?_
      simp [encCal_eq, encInts_eq, e1, e2, e3, e4, e5]
      repeat refine ⟨by first | omega | assumption | decide | (simp only [maxLen]; omega), ?_⟩
      refine meet.of (calendar_Count_c c f t hc) ?_
      simp [encCal_eq, encInts_eq, e1, e2, e3, e4, e5]
      repeat refine ⟨by first | omega | assumption | decide | (simp only [maxLen]; omega), ?_⟩
      refine hK _ ?_
      clear hK K
      refine AWp.cond rfl (fun h58 => ?_) (fun h58 => ?_)
      · try simp at h58
        exact absurd hadd h58
      · try simp at h58
        refine AWp.skip ?_
        repeat first | refine thenN ?_ | refine thenX ?_ | refine thenR ?_ | refine blockN ?_ | refine blockR ?_ | refine blockX ?_ | refine blockM rfl ?_
        -- region 9
        refine AWp.rseq E_ok [0, 1, 2, 3, 4, 5, 10, 11, 12, 13, 14, 16, 33, 58, 72] fun K hK => ?_
        simp [encCal_eq, encInts_eq, e1, e2, e3, e4, e5]
        refine meet.of (calendar_Later c f n hc) ?_
        simp [encCal_eq, encInts_eq, e1, e2, e3, e4, e5]
        repeat refine ⟨by first | omega | assumption | decide | (simp only [maxLen]; omega), ?_⟩
        refine hK _ ?_
        clear hK K
        refine AWp.seq ?_
        -- region 10
        refine AWp.rseq E_ok [0, 1, 2, 3, 4, 5, 10, 11, 12, 13, 14, 16, 33, 58, 72] fun K hK => ?_
        simp [encCal_eq, encInts_eq, e1, e2, e3, e4, e5]
        repeat refine ⟨by first | omega | assumption | decide | (simp only [maxLen]; omega), ?_⟩
        refine hK _ ?_
        clear hK K
        refine AWp.cond rfl (fun h72 => ?_) (fun h72 => ?_)
        · try simp at h72
          -- region 11
          refine AWp.rseq E_ok [0, 1, 2, 3, 4, 5, 10, 11, 12, 13, 14, 16, 33, 58, 72] fun K hK => ?_
          simp [encCal_eq, encInts_eq, e1, e2, e3, e4, e5]
          repeat refine ⟨by first | omega | assumption | decide | (simp only [maxLen]; omega), ?_⟩
          refine hK _ ?_
          clear hK K
          refine AWp.ret ?_
          repeat first | refine thenN ?_ | refine thenX ?_ | refine thenR ?_ | refine blockN ?_ | refine blockR ?_ | refine blockX ?_ | refine blockM rfl ?_
          first | (simp [RetOk, RV]; done) | (simp [RetOk, RV, ls.1, ls.2.1, ls.2.2])
        · try simp at h72
          have ls := later_spec (c := c) (d := f) (n := n) hd.1 hd.2 (by omega) (by omega) h72.1
          refine AWp.skip ?_
          repeat first | refine thenN ?_ | refine thenX ?_ | refine thenR ?_ | refine blockN ?_ | refine blockR ?_ | refine blockX ?_ | refine blockM rfl ?_
          -- region 12
          refine AWp.rseq E_ok [0, 1, 2, 3, 4, 5, 10, 11, 12, 13, 14, 16, 33, 58, 72] fun K hK => ?_
          simp [encCal_eq, encInts_eq, e1, e2, e3, e4, e5]
          refine meet.of (calendar_Open c (laterR c f n).1 hc) ?_
          simp [encCal_eq, encInts_eq, e1, e2, e3, e4, e5]
          refine meet.of (calendar_Count_c c (f + 1) (laterR c f n).1 hc) ?_
          simp [encCal_eq, encInts_eq, e1, e2, e3, e4, e5]
          repeat refine ⟨by first | omega | assumption | decide | (simp only [maxLen]; omega), ?_⟩
          refine hK _ ?_
          clear hK K
          refine AWp.ret ?_
          repeat first | refine thenN ?_ | refine thenX ?_ | refine thenR ?_ | refine blockN ?_ | refine blockR ?_ | refine blockX ?_ | refine blockM rfl ?_
          first | (simp [RetOk, RV]; done) | (simp [RetOk, RV, ls.1, ls.2.1, ls.2.2])
end Go.Proofs.Ytkmcchcdmdooiaa

set_option maxRecDepth 100000
set_option linter.unusedSimpArgs false
set_option linter.unusedVariables false
namespace Go.Proofs.Ytkmcchcdmdooiaa
open Go Ab Lib
theorem open_int : Opens Try.prog 3 (fun n => [D.int .i64 n]) (fun n => IntKind.min .i64 ≤ n ∧ n ≤ IntKind.max .i64) := Opens.int Try.underlying3
theorem openV_int : OpensV Try.prog 3 (fun n => D.int .i64 n) (fun n => IntKind.min .i64 ≤ n ∧ n ≤ IntKind.max .i64) := Opens.one open_int (cells_int' Try.underlying3)
theorem open_api_Errno : Opens Try.prog 26 (fun n => [D.int .i64 n]) (fun n => IntKind.min .i64 ≤ n ∧ n ≤ IntKind.max .i64) := Opens.int Try.underlying26
theorem openV_api_Errno : OpensV Try.prog 26 (fun n => D.int .i64 n) (fun n => IntKind.min .i64 ≤ n ∧ n ≤ IntKind.max .i64) := Opens.one open_api_Errno (cells_int' Try.underlying26)
theorem open_uint8 : Opens Try.prog 5 (fun n => [D.int .u8 n]) (fun n => IntKind.min .u8 ≤ n ∧ n ≤ IntKind.max .u8) := Opens.int Try.underlying5
theorem openV_uint8 : OpensV Try.prog 5 (fun n => D.int .u8 n) (fun n => IntKind.min .u8 ≤ n ∧ n ≤ IntKind.max .u8) := Opens.one open_uint8 (cells_int' Try.underlying5)
theorem open_uint16 : Opens Try.prog 34 (fun n => [D.int .u16 n]) (fun n => IntKind.min .u16 ≤ n ∧ n ≤ IntKind.max .u16) := Opens.int Try.underlying34
theorem openV_uint16 : OpensV Try.prog 34 (fun n => D.int .u16 n) (fun n => IntKind.min .u16 ≤ n ∧ n ≤ IntKind.max .u16) := Opens.one open_uint16 (cells_int' Try.underlying34)
theorem open_bool : Opens Try.prog 4 (fun b => [D.bool b]) (fun _ => True) := Opens.bool Try.underlying4
theorem openV_bool : OpensV Try.prog 4 (fun b => D.bool b) (fun _ => True) := Opens.one open_bool (cells_bool' Try.underlying4)
theorem open_string : Opens Try.prog 9 (fun s => [D.str s]) (fun s => s.length ≤ Go.maxLen) := Opens.str Try.underlying9
theorem openV_string : OpensV Try.prog 9 (fun s => D.str s) (fun s => s.length ≤ Go.maxLen) := Opens.one open_string (cells_str' Try.underlying9)
theorem open_s_int : Opens Try.prog 22 (fun l : List Int => [encInts l]) (fun l => l.length ≤ Go.maxLen) :=
  (Opens.slice Try.underlying22 (by kernel_rfl) (by decide) open_int (D.int .i64) (fun _ => rfl) (.int .i64 0) rfl).map id (fun _ => rfl) (fun _ h => h.2)
theorem openV_s_int : OpensV Try.prog 22 encInts (fun l => l.length ≤ Go.maxLen) := Opens.one open_s_int (cells_slice' Try.underlying22)
theorem open_api_Calendar : Opens Try.prog 24 (fun c : Cal => (encCal c).cells) (fun _ => True) :=
  (Opens.struct Try.underlying24 (OpensF.cons (n := 1) rfl (by kernel_rfl) open_int (fun _ => rfl) (OpensF.cons (n := 1) rfl (by kernel_rfl) open_s_int (fun _ => rfl) OpensF.nil)) (fun _ => by kernel_rfl)).map (fun p => (⟨p.1, p.2.1⟩ : Cal)) (fun _ => rfl) (fun _ _ => trivial)
theorem openV_api_Calendar : OpensV Try.prog 24 encCal (fun _ => True) := Opens.agg Try.underlying24 open_api_Calendar

end Go.Proofs.Ytkmcchcdmdooiaa
