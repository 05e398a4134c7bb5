/-
  What the functions compute that the statement reaches: contracts, and the plain laws between them. Conditions stand at each theorem.
-/
import Derived.Test.YtabmhpgbfjkkcaaDoorWalkTwo
set_option linter.unusedVariables false
set_option linter.unusedSimpArgs false
set_option maxRecDepth 100000
set_option linter.unusedSimpArgs false
set_option linter.unusedVariables false
namespace Go.Proofs.YtabmhpgbfjkkcaaDoor
open Go Ab Pl
theorem ref30_Apply (c : Custody) (m : Mv) : ACalls E.P 18 [encCus c, encMove m] (.tup [encCus (applyR c m).1, .int .i64 (applyR c m).2]) := by
  refine ACalls.intro E_ok Tryd.func18 rfl rfl Tryd.ntmps18 Tryd.results18 (Nat.le_of_ble_eq_true rfl) fun hok base S0 w0 => ?_
  -- region 0
  refine AWp.rseq E_ok [0, 1, 2, 3, 4, 5, 6, 7, 15, 22, 38, 43, 52, 53, 59, 69, 79] fun K hK => ?_
  simp [encCus_eq, encMove_eq]
  repeat refine ⟨by first | omega | assumption | (simp only [maxLen]; omega) | (intros; omega) | decide, ?_⟩
  refine hK _ ?_
  clear hK K
  refine AWp.seq ?_
  -- region 1
  refine AWp.rseq E_ok [0, 1, 2, 3, 4, 5, 6, 7, 15, 22, 38, 43, 52, 53, 59, 69, 79] fun K hK => ?_
  simp [encCus_eq, encMove_eq]
  repeat refine ⟨by first | omega | assumption | (simp only [maxLen]; omega) | (intros; omega) | decide, ?_⟩
  refine meet.of (ref30_Right c) ?_
  simp [encCus_eq, encMove_eq]
  repeat refine ⟨by first | omega | assumption | (simp only [maxLen]; omega) | (intros; omega) | decide, ?_⟩
  refine meet.of (ref30_within m) ?_
  simp [encCus_eq, encMove_eq]
  repeat refine ⟨by first | omega | assumption | (simp only [maxLen]; omega) | (intros; omega) | decide, ?_⟩
  refine hK _ ?_
  clear hK K
  refine AWp.cond rfl (fun h15 => ?_) (fun h15 => ?_)
  · try simp at h15
    -- region 2
    refine AWp.rseq E_ok [0, 1, 2, 3, 4, 5, 6, 7, 15, 22, 38, 43, 52, 53, 59, 69, 79] fun K hK => ?_
    simp [encCus_eq, encMove_eq, h15]
    repeat refine ⟨by first | omega | assumption | (simp only [maxLen]; omega) | (intros; omega) | decide, ?_⟩
    refine hK _ ?_
    clear hK K
    refine AWp.ret ?_
    repeat first | refine thenN ?_ | refine thenX ?_ | refine thenR ?_ | refine blockN ?_ | refine blockR ?_ | refine blockX ?_ | refine blockM rfl ?_
    first | (rw [app_a h15]; simp [RetOk, RV, RVs, encCus_eq, c00]; done) | (rw [app_b h15 h22]; simp [RetOk, RV, RVs, encCus_eq, c00]; done) | (rw [app_c h15 h22 h38]; simp [RetOk, RV, RVs, encCus_eq, c00]; done) | (rw [app_e h15 h22 h38' h43]; simp [RetOk, RV, RVs, encCus_eq, c00]; done) | (rw [app_f h15 h22 h38' h43]; simp [RetOk, RV, RVs, encCus_eq, movR, *])
  · try simp at h15
    refine AWp.skip ?_
    repeat first | refine thenN ?_ | refine thenX ?_ | refine thenR ?_ | refine blockN ?_ | refine blockR ?_ | refine blockX ?_ | refine blockM rfl ?_
    refine AWp.seq ?_
    -- region 3
    refine AWp.rseq E_ok [0, 1, 2, 3, 4, 5, 6, 7, 15, 22, 38, 43, 52, 53, 59, 69, 79] fun K hK => ?_
    simp [encCus_eq, encMove_eq, h15]
    repeat refine ⟨by first | omega | assumption | (simp only [maxLen]; omega) | (intros; omega) | decide, ?_⟩
    refine meet.of (ref30_Allowed c.st m.kind) ?_
    simp [encCus_eq, encMove_eq, h15]
    repeat refine ⟨by first | omega | assumption | (simp only [maxLen]; omega) | (intros; omega) | decide, ?_⟩
    refine hK _ ?_
    clear hK K
    refine AWp.cond rfl (fun h22 => ?_) (fun h22 => ?_)
    · try simp at h22
      -- region 4
      refine AWp.rseq E_ok [0, 1, 2, 3, 4, 5, 6, 7, 15, 22, 38, 43, 52, 53, 59, 69, 79] fun K hK => ?_
      simp [encCus_eq, encMove_eq, h15, h22]
      repeat refine ⟨by first | omega | assumption | (simp only [maxLen]; omega) | (intros; omega) | decide, ?_⟩
      refine hK _ ?_
      clear hK K
      refine AWp.ret ?_
      repeat first | refine thenN ?_ | refine thenX ?_ | refine thenR ?_ | refine blockN ?_ | refine blockR ?_ | refine blockX ?_ | refine blockM rfl ?_
      first | (rw [app_a h15]; simp [RetOk, RV, RVs, encCus_eq, c00]; done) | (rw [app_b h15 h22]; simp [RetOk, RV, RVs, encCus_eq, c00]; done) | (rw [app_c h15 h22 h38]; simp [RetOk, RV, RVs, encCus_eq, c00]; done) | (rw [app_e h15 h22 h38' h43]; simp [RetOk, RV, RVs, encCus_eq, c00]; done) | (rw [app_f h15 h22 h38' h43]; simp [RetOk, RV, RVs, encCus_eq, movR, *])
    · try simp at h22
      refine AWp.skip ?_
      repeat first | refine thenN ?_ | refine thenX ?_ | refine thenR ?_ | refine blockN ?_ | refine blockR ?_ | refine blockX ?_ | refine blockM rfl ?_
      refine AWp.seq ?_
      -- region 5
      refine AWp.rseq E_ok [0, 1, 2, 3, 4, 5, 6, 7, 15, 22, 38, 43, 52, 53, 59, 69, 79] fun K hK => ?_
      simp [encCus_eq, encMove_eq, h15, h22]
      repeat refine ⟨by first | omega | assumption | (simp only [maxLen]; omega) | (intros; omega) | decide, ?_⟩
      refine hK _ ?_
      clear hK K
      refine AWp.cond rfl (fun h38 => ?_) (fun h38 => ?_)
      · try simp at h38
        -- region 6
        refine AWp.rseq E_ok [0, 1, 2, 3, 4, 5, 6, 7, 15, 22, 38, 43, 52, 53, 59, 69, 79] fun K hK => ?_
        simp [encCus_eq, encMove_eq, h15, h22]
        repeat refine ⟨by first | omega | assumption | (simp only [maxLen]; omega) | (intros; omega) | decide, ?_⟩
        refine hK _ ?_
        clear hK K
        refine AWp.ret ?_
        repeat first | refine thenN ?_ | refine thenX ?_ | refine thenR ?_ | refine blockN ?_ | refine blockR ?_ | refine blockX ?_ | refine blockM rfl ?_
        first | (rw [app_a h15]; simp [RetOk, RV, RVs, encCus_eq, c00]; done) | (rw [app_b h15 h22]; simp [RetOk, RV, RVs, encCus_eq, c00]; done) | (rw [app_c h15 h22 h38]; simp [RetOk, RV, RVs, encCus_eq, c00]; done) | (rw [app_e h15 h22 h38' h43]; simp [RetOk, RV, RVs, encCus_eq, c00]; done) | (rw [app_f h15 h22 h38' h43]; simp [RetOk, RV, RVs, encCus_eq, movR, *])
      · try simp at h38
        have h38' : ¬ ((m.kind = 3 ∧ c.st = 5) ∧ ¬ m.who = c.who) := by rintro ⟨⟨a, b⟩, d⟩; exact d (h38 a b)
        refine AWp.skip ?_
        repeat first | refine thenN ?_ | refine thenX ?_ | refine thenR ?_ | refine blockN ?_ | refine blockR ?_ | refine blockX ?_ | refine blockM rfl ?_
        refine AWp.seq ?_
        -- region 7
        refine AWp.rseq E_ok [0, 1, 2, 3, 4, 5, 6, 7, 15, 22, 38, 43, 52, 53, 59, 69, 79] fun K hK => ?_
        simp [encCus_eq, encMove_eq, h15, h22]
        repeat refine ⟨by first | omega | assumption | (simp only [maxLen]; omega) | (intros; omega) | decide, ?_⟩
        refine meet.of (ref30_fits c m) ?_
        simp [encCus_eq, encMove_eq, h15, h22]
        repeat refine ⟨by first | omega | assumption | (simp only [maxLen]; omega) | (intros; omega) | decide, ?_⟩
        refine hK _ ?_
        clear hK K
        refine AWp.cond rfl (fun h43 => ?_) (fun h43 => ?_)
        · try simp at h43
          -- region 8
          refine AWp.rseq E_ok [0, 1, 2, 3, 4, 5, 6, 7, 15, 22, 38, 43, 52, 53, 59, 69, 79] fun K hK => ?_
          simp [encCus_eq, encMove_eq, h15, h22, h43]
          repeat refine ⟨by first | omega | assumption | (simp only [maxLen]; omega) | (intros; omega) | decide, ?_⟩
          refine hK _ ?_
          clear hK K
          refine AWp.ret ?_
          repeat first | refine thenN ?_ | refine thenX ?_ | refine thenR ?_ | refine blockN ?_ | refine blockR ?_ | refine blockX ?_ | refine blockM rfl ?_
          first | (rw [app_a h15]; simp [RetOk, RV, RVs, encCus_eq, c00]; done) | (rw [app_b h15 h22]; simp [RetOk, RV, RVs, encCus_eq, c00]; done) | (rw [app_c h15 h22 h38]; simp [RetOk, RV, RVs, encCus_eq, c00]; done) | (rw [app_e h15 h22 h38' h43]; simp [RetOk, RV, RVs, encCus_eq, c00]; done) | (rw [app_f h15 h22 h38' h43]; simp [RetOk, RV, RVs, encCus_eq, movR, *])
        · try simp at h43
          refine AWp.skip ?_
          repeat first | refine thenN ?_ | refine thenX ?_ | refine thenR ?_ | refine blockN ?_ | refine blockR ?_ | refine blockX ?_ | refine blockM rfl ?_
          -- region 9
          refine AWp.rseq E_ok [0, 1, 2, 3, 4, 5, 6, 7, 15, 22, 38, 43, 52, 53, 59, 69, 79] fun K hK => ?_
          simp [encCus_eq, encMove_eq, h15, h22, h43]
          repeat refine ⟨by first | omega | assumption | (simp only [maxLen]; omega) | (intros; omega) | decide, ?_⟩
          refine meet.of (ref30_after m.kind) ?_
          simp [encCus_eq, encMove_eq, h15, h22, h43]
          repeat refine ⟨by first | omega | assumption | (simp only [maxLen]; omega) | (intros; omega) | decide, ?_⟩
          refine hK _ ?_
          clear hK K
          -- region 10
          refine AWp.rseq E_ok [0, 1, 2, 3, 4, 5, 6, 7, 15, 22, 38, 43, 52, 53, 59, 69, 79] fun K hK => ?_
          simp [encCus_eq, encMove_eq, h15, h22, h43]
          repeat refine ⟨by first | omega | assumption | (simp only [maxLen]; omega) | (intros; omega) | decide, ?_⟩
          refine hK _ ?_
          clear hK K
          refine AWp.seq ?_
          -- region 11
          refine AWp.rseq E_ok [0, 1, 2, 3, 4, 5, 6, 7, 15, 22, 38, 43, 52, 53, 59, 69, 79] fun K hK => ?_
          simp [encCus_eq, encMove_eq, h15, h22, h43]
          repeat refine ⟨by first | omega | assumption | (simp only [maxLen]; omega) | (intros; omega) | decide, ?_⟩
          refine hK _ ?_
          clear hK K
          refine AWp.block ?_
          -- region 12
          refine AWp.rseq E_ok [0, 1, 2, 3, 4, 5, 6, 7, 15, 22, 38, 43, 52, 53, 59, 69, 79] fun K hK => ?_
          simp [encCus_eq, encMove_eq, h15, h22, h43]
          repeat refine ⟨by first | omega | assumption | (simp only [maxLen]; omega) | (intros; omega) | decide, ?_⟩
          refine hK _ ?_
          clear hK K
          refine AWp.cond rfl (fun h53 => ?_) (fun h53 => ?_)
          · try simp at h53
            -- region 13
            refine AWp.rend E_ok [0, 1, 2, 3, 4, 5, 6, 7, 15, 22, 38, 43, 52, 53, 59, 69, 79] fun K hK => ?_
            simp [encCus_eq, encMove_eq, h15, h22, h43, h53]
            repeat refine ⟨by first | omega | assumption | (simp only [maxLen]; omega) | (intros; omega) | decide, ?_⟩
            refine hK _ ?_
            clear hK K
            repeat first | refine thenN ?_ | refine thenX ?_ | refine thenR ?_ | refine blockN ?_ | refine blockR ?_ | refine blockX ?_ | refine blockM rfl ?_
            -- region 23
            refine AWp.rseq E_ok [0, 1, 2, 3, 4, 5, 6, 7, 15, 22, 38, 43, 52, 53, 59, 69, 79] fun K hK => ?_
            simp [encCus_eq, encMove_eq, h15, h22, h43, h53]
            repeat refine ⟨by first | omega | assumption | (simp only [maxLen]; omega) | (intros; omega) | decide, ?_⟩
            refine hK _ ?_
            clear hK K
            refine AWp.ret ?_
            repeat first | refine thenN ?_ | refine thenX ?_ | refine thenR ?_ | refine blockN ?_ | refine blockR ?_ | refine blockX ?_ | refine blockM rfl ?_
            first | (rw [app_a h15]; simp [RetOk, RV, RVs, encCus_eq, c00]; done) | (rw [app_b h15 h22]; simp [RetOk, RV, RVs, encCus_eq, c00]; done) | (rw [app_c h15 h22 h38]; simp [RetOk, RV, RVs, encCus_eq, c00]; done) | (rw [app_e h15 h22 h38' h43]; simp [RetOk, RV, RVs, encCus_eq, c00]; done) | (rw [app_f h15 h22 h38' h43]; simp [RetOk, RV, RVs, encCus_eq, movR, *])
          · try simp at h53
            refine AWp.seq ?_
            -- region 14
            refine AWp.rseq E_ok [0, 1, 2, 3, 4, 5, 6, 7, 15, 22, 38, 43, 52, 53, 59, 69, 79] fun K hK => ?_
            simp [encCus_eq, encMove_eq, h15, h22, h43, h53]
            repeat refine ⟨by first | omega | assumption | (simp only [maxLen]; omega) | (intros; omega) | decide, ?_⟩
            refine hK _ ?_
            clear hK K
            refine AWp.cond rfl (fun h59 => ?_) (fun h59 => ?_)
            · try simp at h59
              refine AWp.skip ?_
              repeat first | refine thenN ?_ | refine thenX ?_ | refine thenR ?_ | refine blockN ?_ | refine blockR ?_ | refine blockX ?_ | refine blockM rfl ?_
              refine AWp.cond rfl (fun hz => ?_) (fun hz => ?_)
              · clear hz
                -- region 17
                refine AWp.rend E_ok [0, 1, 2, 3, 4, 5, 6, 7, 15, 22, 38, 43, 52, 53, 59, 69, 79] fun K hK => ?_
                simp [encCus_eq, encMove_eq, h15, h22, h43, h53, h59]
                repeat refine ⟨by first | omega | assumption | (simp only [maxLen]; omega) | (intros; omega) | decide, ?_⟩
                refine hK _ ?_
                clear hK K
                repeat first | refine thenN ?_ | refine thenX ?_ | refine thenR ?_ | refine blockN ?_ | refine blockR ?_ | refine blockX ?_ | refine blockM rfl ?_
                -- region 23
                refine AWp.rseq E_ok [0, 1, 2, 3, 4, 5, 6, 7, 15, 22, 38, 43, 52, 53, 59, 69, 79] fun K hK => ?_
                simp [encCus_eq, encMove_eq, h15, h22, h43, h53, h59]
                repeat refine ⟨by first | omega | assumption | (simp only [maxLen]; omega) | (intros; omega) | decide, ?_⟩
                refine hK _ ?_
                clear hK K
                refine AWp.ret ?_
                repeat first | refine thenN ?_ | refine thenX ?_ | refine thenR ?_ | refine blockN ?_ | refine blockR ?_ | refine blockX ?_ | refine blockM rfl ?_
                first | (rw [app_a h15]; simp [RetOk, RV, RVs, encCus_eq, c00]; done) | (rw [app_b h15 h22]; simp [RetOk, RV, RVs, encCus_eq, c00]; done) | (rw [app_c h15 h22 h38]; simp [RetOk, RV, RVs, encCus_eq, c00]; done) | (rw [app_e h15 h22 h38' h43]; simp [RetOk, RV, RVs, encCus_eq, c00]; done) | (rw [app_f h15 h22 h38' h43]; simp [RetOk, RV, RVs, encCus_eq, movR, *])
              · exact absurd hz (by simp [h59])
            · try simp at h59
              -- region 15
              refine AWp.rseq E_ok [0, 1, 2, 3, 4, 5, 6, 7, 15, 22, 38, 43, 52, 53, 59, 69, 79] fun K hK => ?_
              simp [encCus_eq, encMove_eq, h15, h22, h43, h53, h59]
              repeat refine ⟨by first | omega | assumption | (simp only [maxLen]; omega) | (intros; omega) | decide, ?_⟩
              refine hK _ ?_
              clear hK K
              refine AWp.cond rfl (fun h59 => ?_) (fun h59 => ?_)
              · try simp at h59
                refine AWp.skip ?_
                repeat first | refine thenN ?_ | refine thenX ?_ | refine thenR ?_ | refine blockN ?_ | refine blockR ?_ | refine blockX ?_ | refine blockM rfl ?_
                refine AWp.cond rfl (fun hz => ?_) (fun hz => ?_)
                · clear hz
                  -- region 17
                  refine AWp.rend E_ok [0, 1, 2, 3, 4, 5, 6, 7, 15, 22, 38, 43, 52, 53, 59, 69, 79] fun K hK => ?_
                  simp [encCus_eq, encMove_eq, h15, h22, h43, h53, h59, h59]
                  repeat refine ⟨by first | omega | assumption | (simp only [maxLen]; omega) | (intros; omega) | decide, ?_⟩
                  refine hK _ ?_
                  clear hK K
                  repeat first | refine thenN ?_ | refine thenX ?_ | refine thenR ?_ | refine blockN ?_ | refine blockR ?_ | refine blockX ?_ | refine blockM rfl ?_
                  -- region 23
                  refine AWp.rseq E_ok [0, 1, 2, 3, 4, 5, 6, 7, 15, 22, 38, 43, 52, 53, 59, 69, 79] fun K hK => ?_
                  simp [encCus_eq, encMove_eq, h15, h22, h43, h53, h59, h59]
                  repeat refine ⟨by first | omega | assumption | (simp only [maxLen]; omega) | (intros; omega) | decide, ?_⟩
                  refine hK _ ?_
                  clear hK K
                  refine AWp.ret ?_
                  repeat first | refine thenN ?_ | refine thenX ?_ | refine thenR ?_ | refine blockN ?_ | refine blockR ?_ | refine blockX ?_ | refine blockM rfl ?_
                  first | (rw [app_a h15]; simp [RetOk, RV, RVs, encCus_eq, c00]; done) | (rw [app_b h15 h22]; simp [RetOk, RV, RVs, encCus_eq, c00]; done) | (rw [app_c h15 h22 h38]; simp [RetOk, RV, RVs, encCus_eq, c00]; done) | (rw [app_e h15 h22 h38' h43]; simp [RetOk, RV, RVs, encCus_eq, c00]; done) | (rw [app_f h15 h22 h38' h43]; simp [RetOk, RV, RVs, encCus_eq, movR, *])
                · exact absurd hz (by simp [h59])
              · try simp at h59
                -- region 16
                refine AWp.rend E_ok [0, 1, 2, 3, 4, 5, 6, 7, 15, 22, 38, 43, 52, 53, 59, 69, 79] fun K hK => ?_
                simp [encCus_eq, encMove_eq, h15, h22, h43, h53, h59, h59]
                repeat refine ⟨by first | omega | assumption | (simp only [maxLen]; omega) | (intros; omega) | decide, ?_⟩
                refine hK _ ?_
                clear hK K
                repeat first | refine thenN ?_ | refine thenX ?_ | refine thenR ?_ | refine blockN ?_ | refine blockR ?_ | refine blockX ?_ | refine blockM rfl ?_
                refine AWp.cond rfl (fun h59 => ?_) (fun h59 => ?_)
                · try simp at h59
                  -- region 17
                  refine AWp.rend E_ok [0, 1, 2, 3, 4, 5, 6, 7, 15, 22, 38, 43, 52, 53, 59, 69, 79] fun K hK => ?_
                  simp [encCus_eq, encMove_eq, h15, h22, h43, h53, h59, h59, h59]
                  repeat refine ⟨by first | omega | assumption | (simp only [maxLen]; omega) | (intros; omega) | decide, ?_⟩
                  refine hK _ ?_
                  clear hK K
                  repeat first | refine thenN ?_ | refine thenX ?_ | refine thenR ?_ | refine blockN ?_ | refine blockR ?_ | refine blockX ?_ | refine blockM rfl ?_
                  -- region 23
                  refine AWp.rseq E_ok [0, 1, 2, 3, 4, 5, 6, 7, 15, 22, 38, 43, 52, 53, 59, 69, 79] fun K hK => ?_
                  simp [encCus_eq, encMove_eq, h15, h22, h43, h53, h59, h59, h59]
                  repeat refine ⟨by first | omega | assumption | (simp only [maxLen]; omega) | (intros; omega) | decide, ?_⟩
                  refine hK _ ?_
                  clear hK K
                  refine AWp.ret ?_
                  repeat first | refine thenN ?_ | refine thenX ?_ | refine thenR ?_ | refine blockN ?_ | refine blockR ?_ | refine blockX ?_ | refine blockM rfl ?_
                  first | (rw [app_a h15]; simp [RetOk, RV, RVs, encCus_eq, c00]; done) | (rw [app_b h15 h22]; simp [RetOk, RV, RVs, encCus_eq, c00]; done) | (rw [app_c h15 h22 h38]; simp [RetOk, RV, RVs, encCus_eq, c00]; done) | (rw [app_e h15 h22 h38' h43]; simp [RetOk, RV, RVs, encCus_eq, c00]; done) | (rw [app_f h15 h22 h38' h43]; simp [RetOk, RV, RVs, encCus_eq, movR, *])
                · try simp at h59
                  -- region 18
                  refine AWp.rseq E_ok [0, 1, 2, 3, 4, 5, 6, 7, 15, 22, 38, 43, 52, 53, 59, 69, 79] fun K hK => ?_
                  simp [encCus_eq, encMove_eq, h15, h22, h43, h53, h59, h59, h59]
                  repeat refine ⟨by first | omega | assumption | (simp only [maxLen]; omega) | (intros; omega) | decide, ?_⟩
                  refine hK _ ?_
                  clear hK K
                  refine AWp.cond rfl (fun h69 => ?_) (fun h69 => ?_)
                  · try simp at h69
                    -- region 19
                    refine AWp.rend E_ok [0, 1, 2, 3, 4, 5, 6, 7, 15, 22, 38, 43, 52, 53, 59, 69, 79] fun K hK => ?_
                    simp [encCus_eq, encMove_eq, h15, h22, h43, h53, h59, h59, h59, h69]
                    repeat refine ⟨by first | omega | assumption | (simp only [maxLen]; omega) | (intros; omega) | decide, ?_⟩
                    refine hK _ ?_
                    clear hK K
                    repeat first | refine thenN ?_ | refine thenX ?_ | refine thenR ?_ | refine blockN ?_ | refine blockR ?_ | refine blockX ?_ | refine blockM rfl ?_
                    -- region 23
                    refine AWp.rseq E_ok [0, 1, 2, 3, 4, 5, 6, 7, 15, 22, 38, 43, 52, 53, 59, 69, 79] fun K hK => ?_
                    simp [encCus_eq, encMove_eq, h15, h22, h43, h53, h59, h59, h59, h69]
                    repeat refine ⟨by first | omega | assumption | (simp only [maxLen]; omega) | (intros; omega) | decide, ?_⟩
                    refine hK _ ?_
                    clear hK K
                    refine AWp.ret ?_
                    repeat first | refine thenN ?_ | refine thenX ?_ | refine thenR ?_ | refine blockN ?_ | refine blockR ?_ | refine blockX ?_ | refine blockM rfl ?_
                    first | (rw [app_a h15]; simp [RetOk, RV, RVs, encCus_eq, c00]; done) | (rw [app_b h15 h22]; simp [RetOk, RV, RVs, encCus_eq, c00]; done) | (rw [app_c h15 h22 h38]; simp [RetOk, RV, RVs, encCus_eq, c00]; done) | (rw [app_e h15 h22 h38' h43]; simp [RetOk, RV, RVs, encCus_eq, c00]; done) | (rw [app_f h15 h22 h38' h43]; simp [RetOk, RV, RVs, encCus_eq, movR, *])
                  · try simp at h69
                    refine AWp.seq ?_
                    -- region 20
                    refine AWp.rseq E_ok [0, 1, 2, 3, 4, 5, 6, 7, 15, 22, 38, 43, 52, 53, 59, 69, 79] fun K hK => ?_
                    simp [encCus_eq, encMove_eq, h15, h22, h43, h53, h59, h59, h59, h69]
                    repeat refine ⟨by first | omega | assumption | (simp only [maxLen]; omega) | (intros; omega) | decide, ?_⟩
                    refine hK _ ?_
                    clear hK K
                    refine AWp.cond rfl (fun h79 => ?_) (fun h79 => ?_)
                    · try simp at h79
                      refine AWp.skip ?_
                      repeat first | refine thenN ?_ | refine thenX ?_ | refine thenR ?_ | refine blockN ?_ | refine blockR ?_ | refine blockX ?_ | refine blockM rfl ?_
                      refine AWp.cond rfl (fun hz => ?_) (fun hz => ?_)
                      · clear hz
                        -- region 22
                        refine AWp.rend E_ok [0, 1, 2, 3, 4, 5, 6, 7, 15, 22, 38, 43, 52, 53, 59, 69, 79] fun K hK => ?_
                        simp [encCus_eq, encMove_eq, h15, h22, h43, h53, h59, h59, h59, h69, h79]
                        repeat refine ⟨by first | omega | assumption | (simp only [maxLen]; omega) | (intros; omega) | decide, ?_⟩
                        refine hK _ ?_
                        clear hK K
                        repeat first | refine thenN ?_ | refine thenX ?_ | refine thenR ?_ | refine blockN ?_ | refine blockR ?_ | refine blockX ?_ | refine blockM rfl ?_
                        -- region 23
                        refine AWp.rseq E_ok [0, 1, 2, 3, 4, 5, 6, 7, 15, 22, 38, 43, 52, 53, 59, 69, 79] fun K hK => ?_
                        simp [encCus_eq, encMove_eq, h15, h22, h43, h53, h59, h59, h59, h69, h79]
                        repeat refine ⟨by first | omega | assumption | (simp only [maxLen]; omega) | (intros; omega) | decide, ?_⟩
                        refine hK _ ?_
                        clear hK K
                        refine AWp.ret ?_
                        repeat first | refine thenN ?_ | refine thenX ?_ | refine thenR ?_ | refine blockN ?_ | refine blockR ?_ | refine blockX ?_ | refine blockM rfl ?_
                        first | (rw [app_a h15]; simp [RetOk, RV, RVs, encCus_eq, c00]; done) | (rw [app_b h15 h22]; simp [RetOk, RV, RVs, encCus_eq, c00]; done) | (rw [app_c h15 h22 h38]; simp [RetOk, RV, RVs, encCus_eq, c00]; done) | (rw [app_e h15 h22 h38' h43]; simp [RetOk, RV, RVs, encCus_eq, c00]; done) | (rw [app_f h15 h22 h38' h43]; simp [RetOk, RV, RVs, encCus_eq, movR, *])
                      · exact absurd hz (by simp [h79])
                    · try simp at h79
                      -- region 21
                      refine AWp.rend E_ok [0, 1, 2, 3, 4, 5, 6, 7, 15, 22, 38, 43, 52, 53, 59, 69, 79] fun K hK => ?_
                      simp [encCus_eq, encMove_eq, h15, h22, h43, h53, h59, h59, h59, h69, h79]
                      repeat refine ⟨by first | omega | assumption | (simp only [maxLen]; omega) | (intros; omega) | decide, ?_⟩
                      refine hK _ ?_
                      clear hK K
                      repeat first | refine thenN ?_ | refine thenX ?_ | refine thenR ?_ | refine blockN ?_ | refine blockR ?_ | refine blockX ?_ | refine blockM rfl ?_
                      refine AWp.cond rfl (fun h79 => ?_) (fun h79 => ?_)
                      · try simp at h79
                        -- region 22
                        refine AWp.rend E_ok [0, 1, 2, 3, 4, 5, 6, 7, 15, 22, 38, 43, 52, 53, 59, 69, 79] fun K hK => ?_
                        simp [encCus_eq, encMove_eq, h15, h22, h43, h53, h59, h59, h59, h69, h79, h79]
                        repeat refine ⟨by first | omega | assumption | (simp only [maxLen]; omega) | (intros; omega) | decide, ?_⟩
                        refine hK _ ?_
                        clear hK K
                        repeat first | refine thenN ?_ | refine thenX ?_ | refine thenR ?_ | refine blockN ?_ | refine blockR ?_ | refine blockX ?_ | refine blockM rfl ?_
                        -- region 23
                        refine AWp.rseq E_ok [0, 1, 2, 3, 4, 5, 6, 7, 15, 22, 38, 43, 52, 53, 59, 69, 79] fun K hK => ?_
                        simp [encCus_eq, encMove_eq, h15, h22, h43, h53, h59, h59, h59, h69, h79, h79]
                        repeat refine ⟨by first | omega | assumption | (simp only [maxLen]; omega) | (intros; omega) | decide, ?_⟩
                        refine hK _ ?_
                        clear hK K
                        refine AWp.ret ?_
                        repeat first | refine thenN ?_ | refine thenX ?_ | refine thenR ?_ | refine blockN ?_ | refine blockR ?_ | refine blockX ?_ | refine blockM rfl ?_
                        first | (rw [app_a h15]; simp [RetOk, RV, RVs, encCus_eq, c00]; done) | (rw [app_b h15 h22]; simp [RetOk, RV, RVs, encCus_eq, c00]; done) | (rw [app_c h15 h22 h38]; simp [RetOk, RV, RVs, encCus_eq, c00]; done) | (rw [app_e h15 h22 h38' h43]; simp [RetOk, RV, RVs, encCus_eq, c00]; done) | (rw [app_f h15 h22 h38' h43]; simp [RetOk, RV, RVs, encCus_eq, movR, *])
                      · try simp at h79
                        refine AWp.skip ?_
                        repeat first | refine thenN ?_ | refine thenX ?_ | refine thenR ?_ | refine blockN ?_ | refine blockR ?_ | refine blockX ?_ | refine blockM rfl ?_
                        -- region 23
                        refine AWp.rseq E_ok [0, 1, 2, 3, 4, 5, 6, 7, 15, 22, 38, 43, 52, 53, 59, 69, 79] fun K hK => ?_
                        simp [encCus_eq, encMove_eq, h15, h22, h43, h53, h59, h59, h59, h69, h79, h79]
                        repeat refine ⟨by first | omega | assumption | (simp only [maxLen]; omega) | (intros; omega) | decide, ?_⟩
                        refine hK _ ?_
                        clear hK K
                        refine AWp.ret ?_
                        repeat first | refine thenN ?_ | refine thenX ?_ | refine thenR ?_ | refine blockN ?_ | refine blockR ?_ | refine blockX ?_ | refine blockM rfl ?_
                        first | (rw [app_a h15]; simp [RetOk, RV, RVs, encCus_eq, c00]; done) | (rw [app_b h15 h22]; simp [RetOk, RV, RVs, encCus_eq, c00]; done) | (rw [app_c h15 h22 h38]; simp [RetOk, RV, RVs, encCus_eq, c00]; done) | (rw [app_e h15 h22 h38' h43]; simp [RetOk, RV, RVs, encCus_eq, c00]; done) | (rw [app_f h15 h22 h38' h43]; simp [RetOk, RV, RVs, encCus_eq, movR, *])
end Go.Proofs.YtabmhpgbfjkkcaaDoor

set_option maxRecDepth 100000
set_option linter.unusedSimpArgs false
set_option linter.unusedVariables false
namespace Go.Proofs.YtabmhpgbfjkkcaaDoor
open Go Ab Pl
set_option maxHeartbeats 4000000 in
theorem ref30_Replay (b : Int) (l : List Mv) (item : Int) (hl : l.length ≤ 1000000) : ACalls E.P 20 [.int .i64 b, encMoves l, .int .i64 item] (.tup [encCus (replayR b l item).1, .int .i64 (replayR b l item).2.1, .int .i64 (replayR b l item).2.2]) := by
  refine ACalls.intro E_ok Tryd.func20 rfl rfl Tryd.ntmps20 Tryd.results20 (Nat.le_of_ble_eq_true rfl) fun hok base S0 w0 => ?_
  -- region 0
  refine AWp.rseq E_ok [0, 1, 2, 6, 7, 8, 9, 10, 11, 12, 18, 25, 34, 45] fun K hK => ?_
  simp [encMoves_eq, encCus_eq, encMove_eq]
  repeat refine ⟨by first | omega | assumption | (simp only [maxLen]; omega) | (intros; omega) | decide, ?_⟩
  refine hK _ ?_
  clear hK K
  refine AWp.seq ?_
  -- region 1
  refine AWp.rseq E_ok [0, 1, 2, 6, 7, 8, 9, 10, 11, 12, 18, 25, 34, 45] fun K hK => ?_
  simp [encMoves_eq, encCus_eq, encMove_eq]
  repeat refine ⟨by first | omega | assumption | (simp only [maxLen]; omega) | (intros; omega) | decide, ?_⟩
  refine hK _ ?_
  clear hK K
  refine AWp.cond rfl (fun h18 => ?_) (fun h18 => ?_)
  · try simp at h18
    -- region 2
    refine AWp.rseq E_ok [0, 1, 2, 6, 7, 8, 9, 10, 11, 12, 18, 25, 34, 45] fun K hK => ?_
    simp [encMoves_eq, encCus_eq, encMove_eq, h18]
    repeat refine ⟨by first | omega | assumption | (simp only [maxLen]; omega) | (intros; omega) | decide, ?_⟩
    refine hK _ ?_
    clear hK K
    refine AWp.ret ?_
    repeat first | refine thenN ?_ | refine thenX ?_ | refine thenR ?_ | refine blockN ?_ | refine blockR ?_ | refine blockX ?_ | refine blockM rfl ?_
    first | (rw [rep_bad h18]; simp [RetOk, RV, RVs, encCus_eq, c00]; done) | (rw [rep_ok h18]; simp [RetOk, RV, RVs, encCus_eq, c00, ← hs])
  · try simp at h18
    refine AWp.skip ?_
    repeat first | refine thenN ?_ | refine thenX ?_ | refine thenR ?_ | refine blockN ?_ | refine blockR ?_ | refine blockX ?_ | refine blockM rfl ?_
    -- region 3
    refine AWp.rseq E_ok [0, 1, 2, 6, 7, 8, 9, 10, 11, 12, 18, 25, 34, 45] fun K hK => ?_
    simp [encMoves_eq, encCus_eq, encMove_eq, h18]
    repeat refine ⟨by first | omega | assumption | (simp only [maxLen]; omega) | (intros; omega) | decide, ?_⟩
    refine meet.of (ref30_Start b) ?_
    simp [encMoves_eq, encCus_eq, encMove_eq, h18]
    repeat refine ⟨by first | omega | assumption | (simp only [maxLen]; omega) | (intros; omega) | decide, ?_⟩
    refine hK _ ?_
    clear hK K
    refine AWp.seq ?_
    -- region 4
    refine AWp.rseq E_ok [0, 1, 2, 6, 7, 8, 9, 10, 11, 12, 18, 25, 34, 45] fun K hK => ?_
    simp [encMoves_eq, encCus_eq, encMove_eq, h18]
    repeat refine ⟨by first | omega | assumption | (simp only [maxLen]; omega) | (intros; omega) | decide, ?_⟩
    refine hK _ ?_
    clear hK K
    refine AWp.block ?_
    refine AWp.range (l := l) (F := repF b item) (tot := repF b item (⟨1, b, 0, 0⟩, 0) l) (fun k y => match y with | (c, m) => m = k) (fun k y => match y with | (c, m) => [(0, T.val (D.int IntKind.i64 b)), (1, T.val ((D.agg [D.int IntKind.i64 zm.day, D.int IntKind.i64 zm.item, D.int IntKind.i64 zm.kind, D.int IntKind.i64 zm.br, D.int IntKind.i64 zm.who]).slice (List.map encMove l))), (2, T.val (D.int IntKind.i64 item)), (6, T.box [C.d (D.int IntKind.i64 0), C.d (D.int IntKind.i64 0), C.d (D.int IntKind.i64 0), C.d (D.int IntKind.i64 0)]), (9, T.box [C.d (.int .i64 c.st), C.d (.int .i64 c.br), C.d (.int .i64 c.who), C.d (.int .i64 c.to)]), (10, T.val (.int .i64 k))]) (⟨1, b, 0, 0⟩, 0) ?_ rfl ?_ ?_
    · simp [Weak, TW, encMoves_eq, encCus_eq, encMove_eq, zm]
    · rfl
    rintro k ⟨c, m⟩ hk hs hi
    try simp only at hi
    refine AWp.seq ?_
    -- region 5
    refine AWp.rseq E_ok [0, 1, 2, 6, 7, 8, 9, 10, 11, 12, 18, 25, 34, 45] fun K hK => ?_
    simp [encMoves_eq, encCus_eq, encMove_eq, h18]
    repeat refine ⟨by first | omega | assumption | (simp only [maxLen]; omega) | (intros; omega) | decide, ?_⟩
    refine hK _ ?_
    clear hK K
    refine AWp.cond rfl (fun h25 => ?_) (fun h25 => ?_)
    · try simp at h25
      obtain ⟨x, hx, hxx, hd⟩ := at_indexG (l := l) h25
      rw [hd] at hs
      rw [hi] at hs
      refine AWp.skip ?_
      repeat first | refine thenN ?_ | refine thenX ?_ | refine thenR ?_ | refine blockN ?_ | refine blockR ?_ | refine blockX ?_ | refine blockM rfl ?_
      refine AWp.seq ?_
      refine AWp.block ?_
      refine AWp.seq ?_
      -- region 7
      refine AWp.rseq E_ok [0, 1, 2, 6, 7, 8, 9, 10, 11, 12, 18, 25, 34, 45] fun K hK => ?_
      simp [encMoves_eq, encCus_eq, encMove_eq, h18, h25, hx, hxx]
      repeat refine ⟨by first | omega | assumption | (simp only [maxLen]; omega) | (intros; omega) | decide, ?_⟩
      refine hK _ ?_
      clear hK K
      refine AWp.cond rfl (fun h34 => ?_) (fun h34 => ?_)
      · try simp at h34
        rw [repF, if_pos h34] at hs
        refine AWp.exit ?_
        repeat first | refine thenN ?_ | refine thenX ?_ | refine thenR ?_ | refine blockN ?_ | refine blockR ?_ | refine blockX ?_ | refine blockM rfl ?_
        -- region 6
        refine AWp.rend E_ok [0, 1, 2, 6, 7, 8, 9, 10, 11, 12, 18, 25, 34, 45] fun K hK => ?_
        simp [encMoves_eq, encCus_eq, encMove_eq, h18, h25, hx, hxx]
        repeat refine ⟨by first | omega | assumption | (simp only [maxLen]; omega) | (intros; omega) | decide, ?_⟩
        refine hK _ ?_
        clear hK K
        repeat first | refine thenN ?_ | refine thenX ?_ | refine thenR ?_ | refine blockN ?_ | refine blockR ?_ | refine blockX ?_ | refine blockM rfl ?_
        have hw : IntKind.i64.wrap ((k : Int) + 1) = (k : Int) + 1 := by rw [wrap_i64] <;> omega
        skip
        refine ⟨_, h25, hs, ?_, ?_⟩
        · rfl
        · simp [Weak, TW, hw, encMoves_eq, encCus_eq, encMove_eq]
      · try simp at h34
        rw [repF, if_neg (by simp [h34])] at hs
        refine AWp.skip ?_
        repeat first | refine thenN ?_ | refine thenX ?_ | refine thenR ?_ | refine blockN ?_ | refine blockR ?_ | refine blockX ?_ | refine blockM rfl ?_
        -- region 8, every order
        refine AWp.rseqB E_ok mixed [0, 1, 2, 6, 7, 8, 9, 10, 11, 12, 18, 25, 34, 45] (n := 12) (l := #[false, false, false, false, false, false, false, false, false, false, false, false]) rfl (by kernel_rfl) fun K hK => ?_
        suffices hnext : K [(0, T.val (D.int IntKind.i64 b)), (1, T.val ((D.agg [D.int IntKind.i64 zm.day, D.int IntKind.i64 zm.item, D.int IntKind.i64 zm.kind, D.int IntKind.i64 zm.br, D.int IntKind.i64 zm.who]).slice (List.map encMove l))), (2, T.val (D.int IntKind.i64 item)), (6, T.box [C.d (D.int IntKind.i64 0), C.d (D.int IntKind.i64 0), C.d (D.int IntKind.i64 0), C.d (D.int IntKind.i64 0)]), (7, T.junk), (8, T.junk), (9, T.box [C.d (D.int IntKind.i64 c.st), C.d (D.int IntKind.i64 c.br), C.d (D.int IntKind.i64 c.who), C.d (D.int IntKind.i64 c.to)]), (10, T.val (D.int IntKind.i64 ↑k)), (11, T.box [C.d (D.int IntKind.i64 (applyR c x).fst.st), C.d (D.int IntKind.i64 (applyR c x).fst.br), C.d (D.int IntKind.i64 (applyR c x).fst.who), C.d (D.int IntKind.i64 (applyR c x).fst.to)]), (12, T.val (D.int IntKind.i64 (applyR c x).snd)), (18, T.junk), (25, T.val (D.bool true)), (34, T.val (D.bool (x.item != item))), (45, T.junk)] by
          refine coreB.cut 0 #[true, true, true, true, true, true, true, true, true, true, true, true] [(0, T.val (D.int IntKind.i64 b)), (1, T.val ((D.agg [D.int IntKind.i64 zm.day, D.int IntKind.i64 zm.item, D.int IntKind.i64 zm.kind, D.int IntKind.i64 zm.br, D.int IntKind.i64 zm.who]).slice (List.map encMove l))), (2, T.val (D.int IntKind.i64 item)), (6, T.box [C.d (D.int IntKind.i64 0), C.d (D.int IntKind.i64 0), C.d (D.int IntKind.i64 0), C.d (D.int IntKind.i64 0)]), (7, T.junk), (8, T.junk), (9, T.box [C.d (D.int IntKind.i64 c.st), C.d (D.int IntKind.i64 c.br), C.d (D.int IntKind.i64 c.who), C.d (D.int IntKind.i64 c.to)]), (10, T.val (D.int IntKind.i64 ↑k)), (11, T.box [C.d (D.int IntKind.i64 (applyR c x).fst.st), C.d (D.int IntKind.i64 (applyR c x).fst.br), C.d (D.int IntKind.i64 (applyR c x).fst.who), C.d (D.int IntKind.i64 (applyR c x).fst.to)]), (12, T.val (D.int IntKind.i64 (applyR c x).snd)), (18, T.junk), (25, T.val (D.bool true)), (34, T.val (D.bool (x.item != item))), (35, T.tup [D.agg [D.int IntKind.i64 (applyR c x).fst.st, D.int IntKind.i64 (applyR c x).fst.br, D.int IntKind.i64 (applyR c x).fst.who, D.int IntKind.i64 (applyR c x).fst.to], D.int IntKind.i64 (applyR c x).snd]), (36, T.val (D.agg [D.int IntKind.i64 c.st, D.int IntKind.i64 c.br, D.int IntKind.i64 c.who, D.int IntKind.i64 c.to])), (37, T.val ((D.agg [D.int IntKind.i64 zm.day, D.int IntKind.i64 zm.item, D.int IntKind.i64 zm.kind, D.int IntKind.i64 zm.br, D.int IntKind.i64 zm.who]).slice (List.map encMove l))), (38, T.val (D.int IntKind.i64 ↑k)), (39, T.val (D.ref [D.int IntKind.i64 x.day, D.int IntKind.i64 x.item, D.int IntKind.i64 x.kind, D.int IntKind.i64 x.br, D.int IntKind.i64 x.who])), (40, T.val (D.agg [D.int IntKind.i64 x.day, D.int IntKind.i64 x.item, D.int IntKind.i64 x.kind, D.int IntKind.i64 x.br, D.int IntKind.i64 x.who])), (41, T.tup [D.agg [D.int IntKind.i64 (applyR c x).fst.st, D.int IntKind.i64 (applyR c x).fst.br, D.int IntKind.i64 (applyR c x).fst.who, D.int IntKind.i64 (applyR c x).fst.to], D.int IntKind.i64 (applyR c x).snd]), (42, T.val (D.agg [D.int IntKind.i64 (applyR c x).fst.st, D.int IntKind.i64 (applyR c x).fst.br, D.int IntKind.i64 (applyR c x).fst.who, D.int IntKind.i64 (applyR c x).fst.to])), (43, T.val (D.int IntKind.i64 (applyR c x).snd)), (45, T.junk)] ?_ fun h_0_1_2_3_4_5_6_7_8_9_10_11 => ?_
          · skip
            refine coreB.nil (by kernel_rfl) ?_
            simpa [encMoves_eq, encCus_eq, encMove_eq] using hnext
          refine coreB.cut 1 #[true, true, true, true, true, true, true, true, true, true, true, false] [(0, T.val (D.int IntKind.i64 b)), (1, T.val ((D.agg [D.int IntKind.i64 zm.day, D.int IntKind.i64 zm.item, D.int IntKind.i64 zm.kind, D.int IntKind.i64 zm.br, D.int IntKind.i64 zm.who]).slice (List.map encMove l))), (2, T.val (D.int IntKind.i64 item)), (6, T.box [C.d (D.int IntKind.i64 0), C.d (D.int IntKind.i64 0), C.d (D.int IntKind.i64 0), C.d (D.int IntKind.i64 0)]), (7, T.junk), (8, T.junk), (9, T.box [C.d (D.int IntKind.i64 c.st), C.d (D.int IntKind.i64 c.br), C.d (D.int IntKind.i64 c.who), C.d (D.int IntKind.i64 c.to)]), (10, T.val (D.int IntKind.i64 ↑k)), (11, T.box [C.d (D.int IntKind.i64 (applyR c x).fst.st), C.d (D.int IntKind.i64 (applyR c x).fst.br), C.d (D.int IntKind.i64 (applyR c x).fst.who), C.d (D.int IntKind.i64 (applyR c x).fst.to)]), (12, T.junk), (18, T.junk), (25, T.val (D.bool true)), (34, T.val (D.bool (x.item != item))), (35, T.tup [D.agg [D.int IntKind.i64 (applyR c x).fst.st, D.int IntKind.i64 (applyR c x).fst.br, D.int IntKind.i64 (applyR c x).fst.who, D.int IntKind.i64 (applyR c x).fst.to], D.int IntKind.i64 (applyR c x).snd]), (36, T.val (D.agg [D.int IntKind.i64 c.st, D.int IntKind.i64 c.br, D.int IntKind.i64 c.who, D.int IntKind.i64 c.to])), (37, T.val ((D.agg [D.int IntKind.i64 zm.day, D.int IntKind.i64 zm.item, D.int IntKind.i64 zm.kind, D.int IntKind.i64 zm.br, D.int IntKind.i64 zm.who]).slice (List.map encMove l))), (38, T.val (D.int IntKind.i64 ↑k)), (39, T.val (D.ref [D.int IntKind.i64 x.day, D.int IntKind.i64 x.item, D.int IntKind.i64 x.kind, D.int IntKind.i64 x.br, D.int IntKind.i64 x.who])), (40, T.val (D.agg [D.int IntKind.i64 x.day, D.int IntKind.i64 x.item, D.int IntKind.i64 x.kind, D.int IntKind.i64 x.br, D.int IntKind.i64 x.who])), (41, T.tup [D.agg [D.int IntKind.i64 (applyR c x).fst.st, D.int IntKind.i64 (applyR c x).fst.br, D.int IntKind.i64 (applyR c x).fst.who, D.int IntKind.i64 (applyR c x).fst.to], D.int IntKind.i64 (applyR c x).snd]), (42, T.val (D.agg [D.int IntKind.i64 (applyR c x).fst.st, D.int IntKind.i64 (applyR c x).fst.br, D.int IntKind.i64 (applyR c x).fst.who, D.int IntKind.i64 (applyR c x).fst.to])), (43, T.val (D.int IntKind.i64 (applyR c x).snd)), (45, T.junk)] ?_ fun h_0_1_2_3_4_5_6_7_8_9_10 => ?_
          · skip
            refine coreB.step [11] (by kernel_rfl) (by simp) ?_
            refine allB.cons rfl ?_ ?_
            · skip
              simp [encMoves_eq, encCus_eq, encMove_eq, h18, h25, hx, hxx]
              repeat refine ⟨by first | omega | assumption | (simp only [maxLen]; omega) | (intros; omega) | decide, ?_⟩
              exact contB.mk (by simp [Weak, TW, encMoves_eq, encCus_eq, encMove_eq]) h_0_1_2_3_4_5_6_7_8_9_10_11 (by kernel_rfl)
            exact allB.nil
          refine coreB.cut 2 #[true, true, true, true, true, true, true, true, true, true, false, false] [(0, T.val (D.int IntKind.i64 b)), (1, T.val ((D.agg [D.int IntKind.i64 zm.day, D.int IntKind.i64 zm.item, D.int IntKind.i64 zm.kind, D.int IntKind.i64 zm.br, D.int IntKind.i64 zm.who]).slice (List.map encMove l))), (2, T.val (D.int IntKind.i64 item)), (6, T.box [C.d (D.int IntKind.i64 0), C.d (D.int IntKind.i64 0), C.d (D.int IntKind.i64 0), C.d (D.int IntKind.i64 0)]), (7, T.junk), (8, T.junk), (9, T.box [C.d (D.int IntKind.i64 c.st), C.d (D.int IntKind.i64 c.br), C.d (D.int IntKind.i64 c.who), C.d (D.int IntKind.i64 c.to)]), (10, T.val (D.int IntKind.i64 ↑k)), (11, T.box [C.d (D.int IntKind.i64 0), C.d (D.int IntKind.i64 0), C.d (D.int IntKind.i64 0), C.d (D.int IntKind.i64 0)]), (12, T.junk), (18, T.junk), (25, T.val (D.bool true)), (34, T.val (D.bool (x.item != item))), (35, T.tup [D.agg [D.int IntKind.i64 (applyR c x).fst.st, D.int IntKind.i64 (applyR c x).fst.br, D.int IntKind.i64 (applyR c x).fst.who, D.int IntKind.i64 (applyR c x).fst.to], D.int IntKind.i64 (applyR c x).snd]), (36, T.val (D.agg [D.int IntKind.i64 c.st, D.int IntKind.i64 c.br, D.int IntKind.i64 c.who, D.int IntKind.i64 c.to])), (37, T.val ((D.agg [D.int IntKind.i64 zm.day, D.int IntKind.i64 zm.item, D.int IntKind.i64 zm.kind, D.int IntKind.i64 zm.br, D.int IntKind.i64 zm.who]).slice (List.map encMove l))), (38, T.val (D.int IntKind.i64 ↑k)), (39, T.val (D.ref [D.int IntKind.i64 x.day, D.int IntKind.i64 x.item, D.int IntKind.i64 x.kind, D.int IntKind.i64 x.br, D.int IntKind.i64 x.who])), (40, T.val (D.agg [D.int IntKind.i64 x.day, D.int IntKind.i64 x.item, D.int IntKind.i64 x.kind, D.int IntKind.i64 x.br, D.int IntKind.i64 x.who])), (41, T.tup [D.agg [D.int IntKind.i64 (applyR c x).fst.st, D.int IntKind.i64 (applyR c x).fst.br, D.int IntKind.i64 (applyR c x).fst.who, D.int IntKind.i64 (applyR c x).fst.to], D.int IntKind.i64 (applyR c x).snd]), (42, T.val (D.agg [D.int IntKind.i64 (applyR c x).fst.st, D.int IntKind.i64 (applyR c x).fst.br, D.int IntKind.i64 (applyR c x).fst.who, D.int IntKind.i64 (applyR c x).fst.to])), (43, T.val (D.int IntKind.i64 (applyR c x).snd)), (45, T.junk)] ?_ fun h_0_1_2_3_4_5_6_7_8_9 => ?_
          · skip
            refine coreB.step [10] (by kernel_rfl) (by simp) ?_
            refine allB.cons rfl ?_ ?_
            · skip
              simp [encMoves_eq, encCus_eq, encMove_eq, h18, h25, hx, hxx]
              repeat refine ⟨by first | omega | assumption | (simp only [maxLen]; omega) | (intros; omega) | decide, ?_⟩
              exact contB.mk (by simp [Weak, TW, encMoves_eq, encCus_eq, encMove_eq]) h_0_1_2_3_4_5_6_7_8_9_10 (by kernel_rfl)
            exact allB.nil
          refine coreB.cut 2 #[true, true, true, true, true, true, true, true, false, true, true, false] [(0, T.val (D.int IntKind.i64 b)), (1, T.val ((D.agg [D.int IntKind.i64 zm.day, D.int IntKind.i64 zm.item, D.int IntKind.i64 zm.kind, D.int IntKind.i64 zm.br, D.int IntKind.i64 zm.who]).slice (List.map encMove l))), (2, T.val (D.int IntKind.i64 item)), (6, T.box [C.d (D.int IntKind.i64 0), C.d (D.int IntKind.i64 0), C.d (D.int IntKind.i64 0), C.d (D.int IntKind.i64 0)]), (7, T.junk), (8, T.junk), (9, T.box [C.d (D.int IntKind.i64 c.st), C.d (D.int IntKind.i64 c.br), C.d (D.int IntKind.i64 c.who), C.d (D.int IntKind.i64 c.to)]), (10, T.val (D.int IntKind.i64 ↑k)), (11, T.box [C.d (D.int IntKind.i64 (applyR c x).fst.st), C.d (D.int IntKind.i64 (applyR c x).fst.br), C.d (D.int IntKind.i64 (applyR c x).fst.who), C.d (D.int IntKind.i64 (applyR c x).fst.to)]), (12, T.junk), (18, T.junk), (25, T.val (D.bool true)), (34, T.val (D.bool (x.item != item))), (35, T.tup [D.agg [D.int IntKind.i64 (applyR c x).fst.st, D.int IntKind.i64 (applyR c x).fst.br, D.int IntKind.i64 (applyR c x).fst.who, D.int IntKind.i64 (applyR c x).fst.to], D.int IntKind.i64 (applyR c x).snd]), (36, T.val (D.agg [D.int IntKind.i64 c.st, D.int IntKind.i64 c.br, D.int IntKind.i64 c.who, D.int IntKind.i64 c.to])), (37, T.val ((D.agg [D.int IntKind.i64 zm.day, D.int IntKind.i64 zm.item, D.int IntKind.i64 zm.kind, D.int IntKind.i64 zm.br, D.int IntKind.i64 zm.who]).slice (List.map encMove l))), (38, T.val (D.int IntKind.i64 ↑k)), (39, T.val (D.ref [D.int IntKind.i64 x.day, D.int IntKind.i64 x.item, D.int IntKind.i64 x.kind, D.int IntKind.i64 x.br, D.int IntKind.i64 x.who])), (40, T.val (D.agg [D.int IntKind.i64 x.day, D.int IntKind.i64 x.item, D.int IntKind.i64 x.kind, D.int IntKind.i64 x.br, D.int IntKind.i64 x.who])), (41, T.tup [D.agg [D.int IntKind.i64 (applyR c x).fst.st, D.int IntKind.i64 (applyR c x).fst.br, D.int IntKind.i64 (applyR c x).fst.who, D.int IntKind.i64 (applyR c x).fst.to], D.int IntKind.i64 (applyR c x).snd]), (42, T.val (D.agg [D.int IntKind.i64 (applyR c x).fst.st, D.int IntKind.i64 (applyR c x).fst.br, D.int IntKind.i64 (applyR c x).fst.who, D.int IntKind.i64 (applyR c x).fst.to])), (45, T.junk)] ?_ fun h_0_1_2_3_4_5_6_7_9_10 => ?_
          · skip
            refine coreB.step [8] (by kernel_rfl) (by simp) ?_
            refine allB.cons rfl ?_ ?_
            · skip
              simp [encMoves_eq, encCus_eq, encMove_eq, h18, h25, hx, hxx]
              repeat refine ⟨by first | omega | assumption | (simp only [maxLen]; omega) | (intros; omega) | decide, ?_⟩
              exact contB.mk (by simp [Weak, TW, encMoves_eq, encCus_eq, encMove_eq]) h_0_1_2_3_4_5_6_7_8_9_10 (by kernel_rfl)
            exact allB.nil
          refine coreB.cut 3 #[true, true, true, true, true, true, true, true, true, false, false, false] [(0, T.val (D.int IntKind.i64 b)), (1, T.val ((D.agg [D.int IntKind.i64 zm.day, D.int IntKind.i64 zm.item, D.int IntKind.i64 zm.kind, D.int IntKind.i64 zm.br, D.int IntKind.i64 zm.who]).slice (List.map encMove l))), (2, T.val (D.int IntKind.i64 item)), (6, T.box [C.d (D.int IntKind.i64 0), C.d (D.int IntKind.i64 0), C.d (D.int IntKind.i64 0), C.d (D.int IntKind.i64 0)]), (7, T.junk), (8, T.junk), (9, T.box [C.d (D.int IntKind.i64 c.st), C.d (D.int IntKind.i64 c.br), C.d (D.int IntKind.i64 c.who), C.d (D.int IntKind.i64 c.to)]), (10, T.val (D.int IntKind.i64 ↑k)), (11, T.junk), (12, T.junk), (18, T.junk), (25, T.val (D.bool true)), (34, T.val (D.bool (x.item != item))), (35, T.tup [D.agg [D.int IntKind.i64 (applyR c x).fst.st, D.int IntKind.i64 (applyR c x).fst.br, D.int IntKind.i64 (applyR c x).fst.who, D.int IntKind.i64 (applyR c x).fst.to], D.int IntKind.i64 (applyR c x).snd]), (36, T.val (D.agg [D.int IntKind.i64 c.st, D.int IntKind.i64 c.br, D.int IntKind.i64 c.who, D.int IntKind.i64 c.to])), (37, T.val ((D.agg [D.int IntKind.i64 zm.day, D.int IntKind.i64 zm.item, D.int IntKind.i64 zm.kind, D.int IntKind.i64 zm.br, D.int IntKind.i64 zm.who]).slice (List.map encMove l))), (38, T.val (D.int IntKind.i64 ↑k)), (39, T.val (D.ref [D.int IntKind.i64 x.day, D.int IntKind.i64 x.item, D.int IntKind.i64 x.kind, D.int IntKind.i64 x.br, D.int IntKind.i64 x.who])), (40, T.val (D.agg [D.int IntKind.i64 x.day, D.int IntKind.i64 x.item, D.int IntKind.i64 x.kind, D.int IntKind.i64 x.br, D.int IntKind.i64 x.who])), (41, T.tup [D.agg [D.int IntKind.i64 (applyR c x).fst.st, D.int IntKind.i64 (applyR c x).fst.br, D.int IntKind.i64 (applyR c x).fst.who, D.int IntKind.i64 (applyR c x).fst.to], D.int IntKind.i64 (applyR c x).snd]), (42, T.val (D.agg [D.int IntKind.i64 (applyR c x).fst.st, D.int IntKind.i64 (applyR c x).fst.br, D.int IntKind.i64 (applyR c x).fst.who, D.int IntKind.i64 (applyR c x).fst.to])), (43, T.val (D.int IntKind.i64 (applyR c x).snd)), (45, T.junk)] ?_ fun h_0_1_2_3_4_5_6_7_8 => ?_
          · skip
            refine coreB.step [9] (by kernel_rfl) (by simp) ?_
            refine allB.cons rfl ?_ ?_
            · skip
              simp [encMoves_eq, encCus_eq, encMove_eq, h18, h25, hx, hxx]
              repeat refine ⟨by first | omega | assumption | (simp only [maxLen]; omega) | (intros; omega) | decide, ?_⟩
              exact contB.mk (by simp [Weak, TW, encMoves_eq, encCus_eq, encMove_eq]) h_0_1_2_3_4_5_6_7_8_9 (by kernel_rfl)
            exact allB.nil
          refine coreB.cut 3 #[true, true, true, true, true, true, true, true, false, true, false, false] [(0, T.val (D.int IntKind.i64 b)), (1, T.val ((D.agg [D.int IntKind.i64 zm.day, D.int IntKind.i64 zm.item, D.int IntKind.i64 zm.kind, D.int IntKind.i64 zm.br, D.int IntKind.i64 zm.who]).slice (List.map encMove l))), (2, T.val (D.int IntKind.i64 item)), (6, T.box [C.d (D.int IntKind.i64 0), C.d (D.int IntKind.i64 0), C.d (D.int IntKind.i64 0), C.d (D.int IntKind.i64 0)]), (7, T.junk), (8, T.junk), (9, T.box [C.d (D.int IntKind.i64 c.st), C.d (D.int IntKind.i64 c.br), C.d (D.int IntKind.i64 c.who), C.d (D.int IntKind.i64 c.to)]), (10, T.val (D.int IntKind.i64 ↑k)), (11, T.box [C.d (D.int IntKind.i64 0), C.d (D.int IntKind.i64 0), C.d (D.int IntKind.i64 0), C.d (D.int IntKind.i64 0)]), (12, T.junk), (18, T.junk), (25, T.val (D.bool true)), (34, T.val (D.bool (x.item != item))), (35, T.tup [D.agg [D.int IntKind.i64 (applyR c x).fst.st, D.int IntKind.i64 (applyR c x).fst.br, D.int IntKind.i64 (applyR c x).fst.who, D.int IntKind.i64 (applyR c x).fst.to], D.int IntKind.i64 (applyR c x).snd]), (36, T.val (D.agg [D.int IntKind.i64 c.st, D.int IntKind.i64 c.br, D.int IntKind.i64 c.who, D.int IntKind.i64 c.to])), (37, T.val ((D.agg [D.int IntKind.i64 zm.day, D.int IntKind.i64 zm.item, D.int IntKind.i64 zm.kind, D.int IntKind.i64 zm.br, D.int IntKind.i64 zm.who]).slice (List.map encMove l))), (38, T.val (D.int IntKind.i64 ↑k)), (39, T.val (D.ref [D.int IntKind.i64 x.day, D.int IntKind.i64 x.item, D.int IntKind.i64 x.kind, D.int IntKind.i64 x.br, D.int IntKind.i64 x.who])), (40, T.val (D.agg [D.int IntKind.i64 x.day, D.int IntKind.i64 x.item, D.int IntKind.i64 x.kind, D.int IntKind.i64 x.br, D.int IntKind.i64 x.who])), (41, T.tup [D.agg [D.int IntKind.i64 (applyR c x).fst.st, D.int IntKind.i64 (applyR c x).fst.br, D.int IntKind.i64 (applyR c x).fst.who, D.int IntKind.i64 (applyR c x).fst.to], D.int IntKind.i64 (applyR c x).snd]), (42, T.val (D.agg [D.int IntKind.i64 (applyR c x).fst.st, D.int IntKind.i64 (applyR c x).fst.br, D.int IntKind.i64 (applyR c x).fst.who, D.int IntKind.i64 (applyR c x).fst.to])), (45, T.junk)] ?_ fun h_0_1_2_3_4_5_6_7_9 => ?_
          · skip
            refine coreB.step [8, 10] (by kernel_rfl) (by simp) ?_
            refine allB.cons rfl ?_ ?_
            · skip
              simp [encMoves_eq, encCus_eq, encMove_eq, h18, h25, hx, hxx]
              repeat refine ⟨by first | omega | assumption | (simp only [maxLen]; omega) | (intros; omega) | decide, ?_⟩
              exact contB.mk (by simp [Weak, TW, encMoves_eq, encCus_eq, encMove_eq]) h_0_1_2_3_4_5_6_7_8_9 (by kernel_rfl)
            refine allB.cons rfl ?_ ?_
            · skip
              simp [encMoves_eq, encCus_eq, encMove_eq, h18, h25, hx, hxx]
              repeat refine ⟨by first | omega | assumption | (simp only [maxLen]; omega) | (intros; omega) | decide, ?_⟩
              exact contB.mk (by simp [Weak, TW, encMoves_eq, encCus_eq, encMove_eq]) h_0_1_2_3_4_5_6_7_9_10 (by kernel_rfl)
            exact allB.nil
          refine coreB.cut 3 #[true, true, true, true, true, true, true, false, true, true, false, false] [(0, T.val (D.int IntKind.i64 b)), (1, T.val ((D.agg [D.int IntKind.i64 zm.day, D.int IntKind.i64 zm.item, D.int IntKind.i64 zm.kind, D.int IntKind.i64 zm.br, D.int IntKind.i64 zm.who]).slice (List.map encMove l))), (2, T.val (D.int IntKind.i64 item)), (6, T.box [C.d (D.int IntKind.i64 0), C.d (D.int IntKind.i64 0), C.d (D.int IntKind.i64 0), C.d (D.int IntKind.i64 0)]), (7, T.junk), (8, T.junk), (9, T.box [C.d (D.int IntKind.i64 c.st), C.d (D.int IntKind.i64 c.br), C.d (D.int IntKind.i64 c.who), C.d (D.int IntKind.i64 c.to)]), (10, T.val (D.int IntKind.i64 ↑k)), (11, T.box [C.d (D.int IntKind.i64 0), C.d (D.int IntKind.i64 0), C.d (D.int IntKind.i64 0), C.d (D.int IntKind.i64 0)]), (12, T.junk), (18, T.junk), (25, T.val (D.bool true)), (34, T.val (D.bool (x.item != item))), (35, T.tup [D.agg [D.int IntKind.i64 (applyR c x).fst.st, D.int IntKind.i64 (applyR c x).fst.br, D.int IntKind.i64 (applyR c x).fst.who, D.int IntKind.i64 (applyR c x).fst.to], D.int IntKind.i64 (applyR c x).snd]), (36, T.val (D.agg [D.int IntKind.i64 c.st, D.int IntKind.i64 c.br, D.int IntKind.i64 c.who, D.int IntKind.i64 c.to])), (37, T.val ((D.agg [D.int IntKind.i64 zm.day, D.int IntKind.i64 zm.item, D.int IntKind.i64 zm.kind, D.int IntKind.i64 zm.br, D.int IntKind.i64 zm.who]).slice (List.map encMove l))), (38, T.val (D.int IntKind.i64 ↑k)), (39, T.val (D.ref [D.int IntKind.i64 x.day, D.int IntKind.i64 x.item, D.int IntKind.i64 x.kind, D.int IntKind.i64 x.br, D.int IntKind.i64 x.who])), (40, T.val (D.agg [D.int IntKind.i64 x.day, D.int IntKind.i64 x.item, D.int IntKind.i64 x.kind, D.int IntKind.i64 x.br, D.int IntKind.i64 x.who])), (41, T.tup [D.agg [D.int IntKind.i64 (applyR c x).fst.st, D.int IntKind.i64 (applyR c x).fst.br, D.int IntKind.i64 (applyR c x).fst.who, D.int IntKind.i64 (applyR c x).fst.to], D.int IntKind.i64 (applyR c x).snd]), (43, T.val (D.int IntKind.i64 (applyR c x).snd)), (45, T.junk)] ?_ fun h_0_1_2_3_4_5_6_8_9 => ?_
          · skip
            refine coreB.step [7] (by kernel_rfl) (by simp) ?_
            refine allB.cons rfl ?_ ?_
            · skip
              simp [encMoves_eq, encCus_eq, encMove_eq, h18, h25, hx, hxx]
              repeat refine ⟨by first | omega | assumption | (simp only [maxLen]; omega) | (intros; omega) | decide, ?_⟩
              exact contB.mk (by simp [Weak, TW, encMoves_eq, encCus_eq, encMove_eq]) h_0_1_2_3_4_5_6_7_8_9 (by kernel_rfl)
            exact allB.nil
          refine coreB.cut 4 #[true, true, true, true, true, true, true, true, false, false, false, false] [(0, T.val (D.int IntKind.i64 b)), (1, T.val ((D.agg [D.int IntKind.i64 zm.day, D.int IntKind.i64 zm.item, D.int IntKind.i64 zm.kind, D.int IntKind.i64 zm.br, D.int IntKind.i64 zm.who]).slice (List.map encMove l))), (2, T.val (D.int IntKind.i64 item)), (6, T.box [C.d (D.int IntKind.i64 0), C.d (D.int IntKind.i64 0), C.d (D.int IntKind.i64 0), C.d (D.int IntKind.i64 0)]), (7, T.junk), (8, T.junk), (9, T.box [C.d (D.int IntKind.i64 c.st), C.d (D.int IntKind.i64 c.br), C.d (D.int IntKind.i64 c.who), C.d (D.int IntKind.i64 c.to)]), (10, T.val (D.int IntKind.i64 ↑k)), (11, T.junk), (12, T.junk), (18, T.junk), (25, T.val (D.bool true)), (34, T.val (D.bool (x.item != item))), (35, T.tup [D.agg [D.int IntKind.i64 (applyR c x).fst.st, D.int IntKind.i64 (applyR c x).fst.br, D.int IntKind.i64 (applyR c x).fst.who, D.int IntKind.i64 (applyR c x).fst.to], D.int IntKind.i64 (applyR c x).snd]), (36, T.val (D.agg [D.int IntKind.i64 c.st, D.int IntKind.i64 c.br, D.int IntKind.i64 c.who, D.int IntKind.i64 c.to])), (37, T.val ((D.agg [D.int IntKind.i64 zm.day, D.int IntKind.i64 zm.item, D.int IntKind.i64 zm.kind, D.int IntKind.i64 zm.br, D.int IntKind.i64 zm.who]).slice (List.map encMove l))), (38, T.val (D.int IntKind.i64 ↑k)), (39, T.val (D.ref [D.int IntKind.i64 x.day, D.int IntKind.i64 x.item, D.int IntKind.i64 x.kind, D.int IntKind.i64 x.br, D.int IntKind.i64 x.who])), (40, T.val (D.agg [D.int IntKind.i64 x.day, D.int IntKind.i64 x.item, D.int IntKind.i64 x.kind, D.int IntKind.i64 x.br, D.int IntKind.i64 x.who])), (41, T.tup [D.agg [D.int IntKind.i64 (applyR c x).fst.st, D.int IntKind.i64 (applyR c x).fst.br, D.int IntKind.i64 (applyR c x).fst.who, D.int IntKind.i64 (applyR c x).fst.to], D.int IntKind.i64 (applyR c x).snd]), (42, T.val (D.agg [D.int IntKind.i64 (applyR c x).fst.st, D.int IntKind.i64 (applyR c x).fst.br, D.int IntKind.i64 (applyR c x).fst.who, D.int IntKind.i64 (applyR c x).fst.to])), (45, T.junk)] ?_ fun h_0_1_2_3_4_5_6_7 => ?_
          · skip
            refine coreB.step [8, 9] (by kernel_rfl) (by simp) ?_
            refine allB.cons rfl ?_ ?_
            · skip
              simp [encMoves_eq, encCus_eq, encMove_eq, h18, h25, hx, hxx]
              repeat refine ⟨by first | omega | assumption | (simp only [maxLen]; omega) | (intros; omega) | decide, ?_⟩
              exact contB.mk (by simp [Weak, TW, encMoves_eq, encCus_eq, encMove_eq]) h_0_1_2_3_4_5_6_7_8 (by kernel_rfl)
            refine allB.cons rfl ?_ ?_
            · skip
              simp [encMoves_eq, encCus_eq, encMove_eq, h18, h25, hx, hxx]
              repeat refine ⟨by first | omega | assumption | (simp only [maxLen]; omega) | (intros; omega) | decide, ?_⟩
              exact contB.mk (by simp [Weak, TW, encMoves_eq, encCus_eq, encMove_eq]) h_0_1_2_3_4_5_6_7_9 (by kernel_rfl)
            exact allB.nil
          refine coreB.cut 4 #[true, true, true, true, true, true, true, false, true, false, false, false] [(0, T.val (D.int IntKind.i64 b)), (1, T.val ((D.agg [D.int IntKind.i64 zm.day, D.int IntKind.i64 zm.item, D.int IntKind.i64 zm.kind, D.int IntKind.i64 zm.br, D.int IntKind.i64 zm.who]).slice (List.map encMove l))), (2, T.val (D.int IntKind.i64 item)), (6, T.box [C.d (D.int IntKind.i64 0), C.d (D.int IntKind.i64 0), C.d (D.int IntKind.i64 0), C.d (D.int IntKind.i64 0)]), (7, T.junk), (8, T.junk), (9, T.box [C.d (D.int IntKind.i64 c.st), C.d (D.int IntKind.i64 c.br), C.d (D.int IntKind.i64 c.who), C.d (D.int IntKind.i64 c.to)]), (10, T.val (D.int IntKind.i64 ↑k)), (11, T.junk), (12, T.junk), (18, T.junk), (25, T.val (D.bool true)), (34, T.val (D.bool (x.item != item))), (35, T.tup [D.agg [D.int IntKind.i64 (applyR c x).fst.st, D.int IntKind.i64 (applyR c x).fst.br, D.int IntKind.i64 (applyR c x).fst.who, D.int IntKind.i64 (applyR c x).fst.to], D.int IntKind.i64 (applyR c x).snd]), (36, T.val (D.agg [D.int IntKind.i64 c.st, D.int IntKind.i64 c.br, D.int IntKind.i64 c.who, D.int IntKind.i64 c.to])), (37, T.val ((D.agg [D.int IntKind.i64 zm.day, D.int IntKind.i64 zm.item, D.int IntKind.i64 zm.kind, D.int IntKind.i64 zm.br, D.int IntKind.i64 zm.who]).slice (List.map encMove l))), (38, T.val (D.int IntKind.i64 ↑k)), (39, T.val (D.ref [D.int IntKind.i64 x.day, D.int IntKind.i64 x.item, D.int IntKind.i64 x.kind, D.int IntKind.i64 x.br, D.int IntKind.i64 x.who])), (40, T.val (D.agg [D.int IntKind.i64 x.day, D.int IntKind.i64 x.item, D.int IntKind.i64 x.kind, D.int IntKind.i64 x.br, D.int IntKind.i64 x.who])), (41, T.tup [D.agg [D.int IntKind.i64 (applyR c x).fst.st, D.int IntKind.i64 (applyR c x).fst.br, D.int IntKind.i64 (applyR c x).fst.who, D.int IntKind.i64 (applyR c x).fst.to], D.int IntKind.i64 (applyR c x).snd]), (43, T.val (D.int IntKind.i64 (applyR c x).snd)), (45, T.junk)] ?_ fun h_0_1_2_3_4_5_6_8 => ?_
          · skip
            refine coreB.step [7, 9] (by kernel_rfl) (by simp) ?_
            refine allB.cons rfl ?_ ?_
            · skip
              simp [encMoves_eq, encCus_eq, encMove_eq, h18, h25, hx, hxx]
              repeat refine ⟨by first | omega | assumption | (simp only [maxLen]; omega) | (intros; omega) | decide, ?_⟩
              exact contB.mk (by simp [Weak, TW, encMoves_eq, encCus_eq, encMove_eq]) h_0_1_2_3_4_5_6_7_8 (by kernel_rfl)
            refine allB.cons rfl ?_ ?_
            · skip
              simp [encMoves_eq, encCus_eq, encMove_eq, h18, h25, hx, hxx]
              repeat refine ⟨by first | omega | assumption | (simp only [maxLen]; omega) | (intros; omega) | decide, ?_⟩
              exact contB.mk (by simp [Weak, TW, encMoves_eq, encCus_eq, encMove_eq]) h_0_1_2_3_4_5_6_8_9 (by kernel_rfl)
            exact allB.nil
          refine coreB.cut 4 #[true, true, true, true, true, true, true, false, false, true, false, false] [(0, T.val (D.int IntKind.i64 b)), (1, T.val ((D.agg [D.int IntKind.i64 zm.day, D.int IntKind.i64 zm.item, D.int IntKind.i64 zm.kind, D.int IntKind.i64 zm.br, D.int IntKind.i64 zm.who]).slice (List.map encMove l))), (2, T.val (D.int IntKind.i64 item)), (6, T.box [C.d (D.int IntKind.i64 0), C.d (D.int IntKind.i64 0), C.d (D.int IntKind.i64 0), C.d (D.int IntKind.i64 0)]), (7, T.junk), (8, T.junk), (9, T.box [C.d (D.int IntKind.i64 c.st), C.d (D.int IntKind.i64 c.br), C.d (D.int IntKind.i64 c.who), C.d (D.int IntKind.i64 c.to)]), (10, T.val (D.int IntKind.i64 ↑k)), (11, T.box [C.d (D.int IntKind.i64 0), C.d (D.int IntKind.i64 0), C.d (D.int IntKind.i64 0), C.d (D.int IntKind.i64 0)]), (12, T.junk), (18, T.junk), (25, T.val (D.bool true)), (34, T.val (D.bool (x.item != item))), (35, T.tup [D.agg [D.int IntKind.i64 (applyR c x).fst.st, D.int IntKind.i64 (applyR c x).fst.br, D.int IntKind.i64 (applyR c x).fst.who, D.int IntKind.i64 (applyR c x).fst.to], D.int IntKind.i64 (applyR c x).snd]), (36, T.val (D.agg [D.int IntKind.i64 c.st, D.int IntKind.i64 c.br, D.int IntKind.i64 c.who, D.int IntKind.i64 c.to])), (37, T.val ((D.agg [D.int IntKind.i64 zm.day, D.int IntKind.i64 zm.item, D.int IntKind.i64 zm.kind, D.int IntKind.i64 zm.br, D.int IntKind.i64 zm.who]).slice (List.map encMove l))), (38, T.val (D.int IntKind.i64 ↑k)), (39, T.val (D.ref [D.int IntKind.i64 x.day, D.int IntKind.i64 x.item, D.int IntKind.i64 x.kind, D.int IntKind.i64 x.br, D.int IntKind.i64 x.who])), (40, T.val (D.agg [D.int IntKind.i64 x.day, D.int IntKind.i64 x.item, D.int IntKind.i64 x.kind, D.int IntKind.i64 x.br, D.int IntKind.i64 x.who])), (41, T.tup [D.agg [D.int IntKind.i64 (applyR c x).fst.st, D.int IntKind.i64 (applyR c x).fst.br, D.int IntKind.i64 (applyR c x).fst.who, D.int IntKind.i64 (applyR c x).fst.to], D.int IntKind.i64 (applyR c x).snd]), (45, T.junk)] ?_ fun h_0_1_2_3_4_5_6_9 => ?_
          · skip
            refine coreB.step [7, 8] (by kernel_rfl) (by simp) ?_
            refine allB.cons rfl ?_ ?_
            · skip
              simp [encMoves_eq, encCus_eq, encMove_eq, h18, h25, hx, hxx]
              repeat refine ⟨by first | omega | assumption | (simp only [maxLen]; omega) | (intros; omega) | decide, ?_⟩
              exact contB.mk (by simp [Weak, TW, encMoves_eq, encCus_eq, encMove_eq]) h_0_1_2_3_4_5_6_7_9 (by kernel_rfl)
            refine allB.cons rfl ?_ ?_
            · skip
              simp [encMoves_eq, encCus_eq, encMove_eq, h18, h25, hx, hxx]
              repeat refine ⟨by first | omega | assumption | (simp only [maxLen]; omega) | (intros; omega) | decide, ?_⟩
              exact contB.mk (by simp [Weak, TW, encMoves_eq, encCus_eq, encMove_eq]) h_0_1_2_3_4_5_6_8_9 (by kernel_rfl)
            exact allB.nil
          refine coreB.cut 5 #[true, true, true, true, true, true, true, false, false, false, false, false] [(0, T.val (D.int IntKind.i64 b)), (1, T.val ((D.agg [D.int IntKind.i64 zm.day, D.int IntKind.i64 zm.item, D.int IntKind.i64 zm.kind, D.int IntKind.i64 zm.br, D.int IntKind.i64 zm.who]).slice (List.map encMove l))), (2, T.val (D.int IntKind.i64 item)), (6, T.box [C.d (D.int IntKind.i64 0), C.d (D.int IntKind.i64 0), C.d (D.int IntKind.i64 0), C.d (D.int IntKind.i64 0)]), (7, T.junk), (8, T.junk), (9, T.box [C.d (D.int IntKind.i64 c.st), C.d (D.int IntKind.i64 c.br), C.d (D.int IntKind.i64 c.who), C.d (D.int IntKind.i64 c.to)]), (10, T.val (D.int IntKind.i64 ↑k)), (11, T.junk), (12, T.junk), (18, T.junk), (25, T.val (D.bool true)), (34, T.val (D.bool (x.item != item))), (35, T.tup [D.agg [D.int IntKind.i64 (applyR c x).fst.st, D.int IntKind.i64 (applyR c x).fst.br, D.int IntKind.i64 (applyR c x).fst.who, D.int IntKind.i64 (applyR c x).fst.to], D.int IntKind.i64 (applyR c x).snd]), (36, T.val (D.agg [D.int IntKind.i64 c.st, D.int IntKind.i64 c.br, D.int IntKind.i64 c.who, D.int IntKind.i64 c.to])), (37, T.val ((D.agg [D.int IntKind.i64 zm.day, D.int IntKind.i64 zm.item, D.int IntKind.i64 zm.kind, D.int IntKind.i64 zm.br, D.int IntKind.i64 zm.who]).slice (List.map encMove l))), (38, T.val (D.int IntKind.i64 ↑k)), (39, T.val (D.ref [D.int IntKind.i64 x.day, D.int IntKind.i64 x.item, D.int IntKind.i64 x.kind, D.int IntKind.i64 x.br, D.int IntKind.i64 x.who])), (40, T.val (D.agg [D.int IntKind.i64 x.day, D.int IntKind.i64 x.item, D.int IntKind.i64 x.kind, D.int IntKind.i64 x.br, D.int IntKind.i64 x.who])), (41, T.tup [D.agg [D.int IntKind.i64 (applyR c x).fst.st, D.int IntKind.i64 (applyR c x).fst.br, D.int IntKind.i64 (applyR c x).fst.who, D.int IntKind.i64 (applyR c x).fst.to], D.int IntKind.i64 (applyR c x).snd]), (45, T.junk)] ?_ fun h_0_1_2_3_4_5_6 => ?_
          · skip
            refine coreB.step [7, 8, 9] (by kernel_rfl) (by simp) ?_
            refine allB.cons rfl ?_ ?_
            · skip
              simp [encMoves_eq, encCus_eq, encMove_eq, h18, h25, hx, hxx]
              repeat refine ⟨by first | omega | assumption | (simp only [maxLen]; omega) | (intros; omega) | decide, ?_⟩
              exact contB.mk (by simp [Weak, TW, encMoves_eq, encCus_eq, encMove_eq]) h_0_1_2_3_4_5_6_7 (by kernel_rfl)
            refine allB.cons rfl ?_ ?_
            · skip
              simp [encMoves_eq, encCus_eq, encMove_eq, h18, h25, hx, hxx]
              repeat refine ⟨by first | omega | assumption | (simp only [maxLen]; omega) | (intros; omega) | decide, ?_⟩
              exact contB.mk (by simp [Weak, TW, encMoves_eq, encCus_eq, encMove_eq]) h_0_1_2_3_4_5_6_8 (by kernel_rfl)
            refine allB.cons rfl ?_ ?_
            · skip
              simp [encMoves_eq, encCus_eq, encMove_eq, h18, h25, hx, hxx]
              repeat refine ⟨by first | omega | assumption | (simp only [maxLen]; omega) | (intros; omega) | decide, ?_⟩
              exact contB.mk (by simp [Weak, TW, encMoves_eq, encCus_eq, encMove_eq]) h_0_1_2_3_4_5_6_9 (by kernel_rfl)
            exact allB.nil
          refine coreB.cut 5 #[true, true, true, true, true, true, false, false, false, true, false, false] [(0, T.val (D.int IntKind.i64 b)), (1, T.val ((D.agg [D.int IntKind.i64 zm.day, D.int IntKind.i64 zm.item, D.int IntKind.i64 zm.kind, D.int IntKind.i64 zm.br, D.int IntKind.i64 zm.who]).slice (List.map encMove l))), (2, T.val (D.int IntKind.i64 item)), (6, T.box [C.d (D.int IntKind.i64 0), C.d (D.int IntKind.i64 0), C.d (D.int IntKind.i64 0), C.d (D.int IntKind.i64 0)]), (7, T.junk), (8, T.junk), (9, T.box [C.d (D.int IntKind.i64 c.st), C.d (D.int IntKind.i64 c.br), C.d (D.int IntKind.i64 c.who), C.d (D.int IntKind.i64 c.to)]), (10, T.val (D.int IntKind.i64 ↑k)), (11, T.box [C.d (D.int IntKind.i64 0), C.d (D.int IntKind.i64 0), C.d (D.int IntKind.i64 0), C.d (D.int IntKind.i64 0)]), (12, T.junk), (18, T.junk), (25, T.val (D.bool true)), (34, T.val (D.bool (x.item != item))), (36, T.val (D.agg [D.int IntKind.i64 c.st, D.int IntKind.i64 c.br, D.int IntKind.i64 c.who, D.int IntKind.i64 c.to])), (37, T.val ((D.agg [D.int IntKind.i64 zm.day, D.int IntKind.i64 zm.item, D.int IntKind.i64 zm.kind, D.int IntKind.i64 zm.br, D.int IntKind.i64 zm.who]).slice (List.map encMove l))), (38, T.val (D.int IntKind.i64 ↑k)), (39, T.val (D.ref [D.int IntKind.i64 x.day, D.int IntKind.i64 x.item, D.int IntKind.i64 x.kind, D.int IntKind.i64 x.br, D.int IntKind.i64 x.who])), (40, T.val (D.agg [D.int IntKind.i64 x.day, D.int IntKind.i64 x.item, D.int IntKind.i64 x.kind, D.int IntKind.i64 x.br, D.int IntKind.i64 x.who])), (41, T.tup [D.agg [D.int IntKind.i64 (applyR c x).fst.st, D.int IntKind.i64 (applyR c x).fst.br, D.int IntKind.i64 (applyR c x).fst.who, D.int IntKind.i64 (applyR c x).fst.to], D.int IntKind.i64 (applyR c x).snd]), (45, T.junk)] ?_ fun h_0_1_2_3_4_5_9 => ?_
          · skip
            refine coreB.step [6] (by kernel_rfl) (by simp) ?_
            refine allB.cons rfl ?_ ?_
            · skip
              simp [encMoves_eq, encCus_eq, encMove_eq, h18, h25, hx, hxx]
              repeat refine ⟨by first | omega | assumption | (simp only [maxLen]; omega) | (intros; omega) | decide, ?_⟩
              exact contB.mk (by simp [Weak, TW, encMoves_eq, encCus_eq, encMove_eq]) h_0_1_2_3_4_5_6_9 (by kernel_rfl)
            exact allB.nil
          refine coreB.cut 6 #[true, true, true, true, true, true, false, false, false, false, false, false] [(0, T.val (D.int IntKind.i64 b)), (1, T.val ((D.agg [D.int IntKind.i64 zm.day, D.int IntKind.i64 zm.item, D.int IntKind.i64 zm.kind, D.int IntKind.i64 zm.br, D.int IntKind.i64 zm.who]).slice (List.map encMove l))), (2, T.val (D.int IntKind.i64 item)), (6, T.box [C.d (D.int IntKind.i64 0), C.d (D.int IntKind.i64 0), C.d (D.int IntKind.i64 0), C.d (D.int IntKind.i64 0)]), (7, T.junk), (8, T.junk), (9, T.box [C.d (D.int IntKind.i64 c.st), C.d (D.int IntKind.i64 c.br), C.d (D.int IntKind.i64 c.who), C.d (D.int IntKind.i64 c.to)]), (10, T.val (D.int IntKind.i64 ↑k)), (11, T.junk), (12, T.junk), (18, T.junk), (25, T.val (D.bool true)), (34, T.val (D.bool (x.item != item))), (36, T.val (D.agg [D.int IntKind.i64 c.st, D.int IntKind.i64 c.br, D.int IntKind.i64 c.who, D.int IntKind.i64 c.to])), (37, T.val ((D.agg [D.int IntKind.i64 zm.day, D.int IntKind.i64 zm.item, D.int IntKind.i64 zm.kind, D.int IntKind.i64 zm.br, D.int IntKind.i64 zm.who]).slice (List.map encMove l))), (38, T.val (D.int IntKind.i64 ↑k)), (39, T.val (D.ref [D.int IntKind.i64 x.day, D.int IntKind.i64 x.item, D.int IntKind.i64 x.kind, D.int IntKind.i64 x.br, D.int IntKind.i64 x.who])), (40, T.val (D.agg [D.int IntKind.i64 x.day, D.int IntKind.i64 x.item, D.int IntKind.i64 x.kind, D.int IntKind.i64 x.br, D.int IntKind.i64 x.who])), (41, T.tup [D.agg [D.int IntKind.i64 (applyR c x).fst.st, D.int IntKind.i64 (applyR c x).fst.br, D.int IntKind.i64 (applyR c x).fst.who, D.int IntKind.i64 (applyR c x).fst.to], D.int IntKind.i64 (applyR c x).snd]), (45, T.junk)] ?_ fun h_0_1_2_3_4_5 => ?_
          · skip
            refine coreB.step [6, 9] (by kernel_rfl) (by simp) ?_
            refine allB.cons rfl ?_ ?_
            · skip
              simp [encMoves_eq, encCus_eq, encMove_eq, h18, h25, hx, hxx]
              repeat refine ⟨by first | omega | assumption | (simp only [maxLen]; omega) | (intros; omega) | decide, ?_⟩
              exact contB.mk (by simp [Weak, TW, encMoves_eq, encCus_eq, encMove_eq]) h_0_1_2_3_4_5_6 (by kernel_rfl)
            refine allB.cons rfl ?_ ?_
            · skip
              simp [encMoves_eq, encCus_eq, encMove_eq, h18, h25, hx, hxx]
              repeat refine ⟨by first | omega | assumption | (simp only [maxLen]; omega) | (intros; omega) | decide, ?_⟩
              exact contB.mk (by simp [Weak, TW, encMoves_eq, encCus_eq, encMove_eq]) h_0_1_2_3_4_5_9 (by kernel_rfl)
            exact allB.nil
          refine coreB.cut 6 #[true, true, true, true, true, false, false, false, false, true, false, false] [(0, T.val (D.int IntKind.i64 b)), (1, T.val ((D.agg [D.int IntKind.i64 zm.day, D.int IntKind.i64 zm.item, D.int IntKind.i64 zm.kind, D.int IntKind.i64 zm.br, D.int IntKind.i64 zm.who]).slice (List.map encMove l))), (2, T.val (D.int IntKind.i64 item)), (6, T.box [C.d (D.int IntKind.i64 0), C.d (D.int IntKind.i64 0), C.d (D.int IntKind.i64 0), C.d (D.int IntKind.i64 0)]), (7, T.junk), (8, T.junk), (9, T.box [C.d (D.int IntKind.i64 c.st), C.d (D.int IntKind.i64 c.br), C.d (D.int IntKind.i64 c.who), C.d (D.int IntKind.i64 c.to)]), (10, T.val (D.int IntKind.i64 ↑k)), (11, T.box [C.d (D.int IntKind.i64 0), C.d (D.int IntKind.i64 0), C.d (D.int IntKind.i64 0), C.d (D.int IntKind.i64 0)]), (12, T.junk), (18, T.junk), (25, T.val (D.bool true)), (34, T.val (D.bool (x.item != item))), (36, T.val (D.agg [D.int IntKind.i64 c.st, D.int IntKind.i64 c.br, D.int IntKind.i64 c.who, D.int IntKind.i64 c.to])), (37, T.val ((D.agg [D.int IntKind.i64 zm.day, D.int IntKind.i64 zm.item, D.int IntKind.i64 zm.kind, D.int IntKind.i64 zm.br, D.int IntKind.i64 zm.who]).slice (List.map encMove l))), (38, T.val (D.int IntKind.i64 ↑k)), (39, T.val (D.ref [D.int IntKind.i64 x.day, D.int IntKind.i64 x.item, D.int IntKind.i64 x.kind, D.int IntKind.i64 x.br, D.int IntKind.i64 x.who])), (40, T.val (D.agg [D.int IntKind.i64 x.day, D.int IntKind.i64 x.item, D.int IntKind.i64 x.kind, D.int IntKind.i64 x.br, D.int IntKind.i64 x.who])), (45, T.junk)] ?_ fun h_0_1_2_3_4_9 => ?_
          · skip
            refine coreB.step [5] (by kernel_rfl) (by simp) ?_
            refine allB.cons rfl ?_ ?_
            · skip
              simp [encMoves_eq, encCus_eq, encMove_eq, h18, h25, hx, hxx]
              repeat refine ⟨by first | omega | assumption | (simp only [maxLen]; omega) | (intros; omega) | decide, ?_⟩
              refine meet.of (ref30_Apply c x) ?_
              simp [encMoves_eq, encCus_eq, encMove_eq, h18, h25, hx, hxx]
              repeat refine ⟨by first | omega | assumption | (simp only [maxLen]; omega) | (intros; omega) | decide, ?_⟩
              exact contB.mk (by simp [Weak, TW, encMoves_eq, encCus_eq, encMove_eq]) h_0_1_2_3_4_5_9 (by kernel_rfl)
            exact allB.nil
          refine coreB.cut 7 #[true, true, true, true, true, false, false, false, false, false, false, false] [(0, T.val (D.int IntKind.i64 b)), (1, T.val ((D.agg [D.int IntKind.i64 zm.day, D.int IntKind.i64 zm.item, D.int IntKind.i64 zm.kind, D.int IntKind.i64 zm.br, D.int IntKind.i64 zm.who]).slice (List.map encMove l))), (2, T.val (D.int IntKind.i64 item)), (6, T.box [C.d (D.int IntKind.i64 0), C.d (D.int IntKind.i64 0), C.d (D.int IntKind.i64 0), C.d (D.int IntKind.i64 0)]), (7, T.junk), (8, T.junk), (9, T.box [C.d (D.int IntKind.i64 c.st), C.d (D.int IntKind.i64 c.br), C.d (D.int IntKind.i64 c.who), C.d (D.int IntKind.i64 c.to)]), (10, T.val (D.int IntKind.i64 ↑k)), (11, T.junk), (12, T.junk), (18, T.junk), (25, T.val (D.bool true)), (34, T.val (D.bool (x.item != item))), (36, T.val (D.agg [D.int IntKind.i64 c.st, D.int IntKind.i64 c.br, D.int IntKind.i64 c.who, D.int IntKind.i64 c.to])), (37, T.val ((D.agg [D.int IntKind.i64 zm.day, D.int IntKind.i64 zm.item, D.int IntKind.i64 zm.kind, D.int IntKind.i64 zm.br, D.int IntKind.i64 zm.who]).slice (List.map encMove l))), (38, T.val (D.int IntKind.i64 ↑k)), (39, T.val (D.ref [D.int IntKind.i64 x.day, D.int IntKind.i64 x.item, D.int IntKind.i64 x.kind, D.int IntKind.i64 x.br, D.int IntKind.i64 x.who])), (40, T.val (D.agg [D.int IntKind.i64 x.day, D.int IntKind.i64 x.item, D.int IntKind.i64 x.kind, D.int IntKind.i64 x.br, D.int IntKind.i64 x.who])), (45, T.junk)] ?_ fun h_0_1_2_3_4 => ?_
          · skip
            refine coreB.step [5, 9] (by kernel_rfl) (by simp) ?_
            refine allB.cons rfl ?_ ?_
            · skip
              simp [encMoves_eq, encCus_eq, encMove_eq, h18, h25, hx, hxx]
              repeat refine ⟨by first | omega | assumption | (simp only [maxLen]; omega) | (intros; omega) | decide, ?_⟩
              refine meet.of (ref30_Apply c x) ?_
              simp [encMoves_eq, encCus_eq, encMove_eq, h18, h25, hx, hxx]
              repeat refine ⟨by first | omega | assumption | (simp only [maxLen]; omega) | (intros; omega) | decide, ?_⟩
              exact contB.mk (by simp [Weak, TW, encMoves_eq, encCus_eq, encMove_eq]) h_0_1_2_3_4_5 (by kernel_rfl)
            refine allB.cons rfl ?_ ?_
            · skip
              simp [encMoves_eq, encCus_eq, encMove_eq, h18, h25, hx, hxx]
              repeat refine ⟨by first | omega | assumption | (simp only [maxLen]; omega) | (intros; omega) | decide, ?_⟩
              exact contB.mk (by simp [Weak, TW, encMoves_eq, encCus_eq, encMove_eq]) h_0_1_2_3_4_9 (by kernel_rfl)
            exact allB.nil
          refine coreB.cut 7 #[true, true, true, true, false, false, false, false, false, true, false, false] [(0, T.val (D.int IntKind.i64 b)), (1, T.val ((D.agg [D.int IntKind.i64 zm.day, D.int IntKind.i64 zm.item, D.int IntKind.i64 zm.kind, D.int IntKind.i64 zm.br, D.int IntKind.i64 zm.who]).slice (List.map encMove l))), (2, T.val (D.int IntKind.i64 item)), (6, T.box [C.d (D.int IntKind.i64 0), C.d (D.int IntKind.i64 0), C.d (D.int IntKind.i64 0), C.d (D.int IntKind.i64 0)]), (7, T.junk), (8, T.junk), (9, T.box [C.d (D.int IntKind.i64 c.st), C.d (D.int IntKind.i64 c.br), C.d (D.int IntKind.i64 c.who), C.d (D.int IntKind.i64 c.to)]), (10, T.val (D.int IntKind.i64 ↑k)), (11, T.box [C.d (D.int IntKind.i64 0), C.d (D.int IntKind.i64 0), C.d (D.int IntKind.i64 0), C.d (D.int IntKind.i64 0)]), (12, T.junk), (18, T.junk), (25, T.val (D.bool true)), (34, T.val (D.bool (x.item != item))), (36, T.val (D.agg [D.int IntKind.i64 c.st, D.int IntKind.i64 c.br, D.int IntKind.i64 c.who, D.int IntKind.i64 c.to])), (37, T.val ((D.agg [D.int IntKind.i64 zm.day, D.int IntKind.i64 zm.item, D.int IntKind.i64 zm.kind, D.int IntKind.i64 zm.br, D.int IntKind.i64 zm.who]).slice (List.map encMove l))), (38, T.val (D.int IntKind.i64 ↑k)), (39, T.val (D.ref [D.int IntKind.i64 x.day, D.int IntKind.i64 x.item, D.int IntKind.i64 x.kind, D.int IntKind.i64 x.br, D.int IntKind.i64 x.who])), (45, T.junk)] ?_ fun h_0_1_2_3_9 => ?_
          · skip
            refine coreB.step [4] (by kernel_rfl) (by simp) ?_
            refine allB.cons rfl ?_ ?_
            · skip
              simp [encMoves_eq, encCus_eq, encMove_eq, h18, h25, hx, hxx]
              repeat refine ⟨by first | omega | assumption | (simp only [maxLen]; omega) | (intros; omega) | decide, ?_⟩
              exact contB.mk (by simp [Weak, TW, encMoves_eq, encCus_eq, encMove_eq]) h_0_1_2_3_4_9 (by kernel_rfl)
            exact allB.nil
          refine coreB.cut 7 #[false, true, true, true, true, false, false, false, false, true, false, false] [(0, T.val (D.int IntKind.i64 b)), (1, T.val ((D.agg [D.int IntKind.i64 zm.day, D.int IntKind.i64 zm.item, D.int IntKind.i64 zm.kind, D.int IntKind.i64 zm.br, D.int IntKind.i64 zm.who]).slice (List.map encMove l))), (2, T.val (D.int IntKind.i64 item)), (6, T.box [C.d (D.int IntKind.i64 0), C.d (D.int IntKind.i64 0), C.d (D.int IntKind.i64 0), C.d (D.int IntKind.i64 0)]), (7, T.junk), (8, T.junk), (9, T.box [C.d (D.int IntKind.i64 c.st), C.d (D.int IntKind.i64 c.br), C.d (D.int IntKind.i64 c.who), C.d (D.int IntKind.i64 c.to)]), (10, T.val (D.int IntKind.i64 ↑k)), (11, T.box [C.d (D.int IntKind.i64 0), C.d (D.int IntKind.i64 0), C.d (D.int IntKind.i64 0), C.d (D.int IntKind.i64 0)]), (12, T.junk), (18, T.junk), (25, T.val (D.bool true)), (34, T.val (D.bool (x.item != item))), (37, T.val ((D.agg [D.int IntKind.i64 zm.day, D.int IntKind.i64 zm.item, D.int IntKind.i64 zm.kind, D.int IntKind.i64 zm.br, D.int IntKind.i64 zm.who]).slice (List.map encMove l))), (38, T.val (D.int IntKind.i64 ↑k)), (39, T.val (D.ref [D.int IntKind.i64 x.day, D.int IntKind.i64 x.item, D.int IntKind.i64 x.kind, D.int IntKind.i64 x.br, D.int IntKind.i64 x.who])), (40, T.val (D.agg [D.int IntKind.i64 x.day, D.int IntKind.i64 x.item, D.int IntKind.i64 x.kind, D.int IntKind.i64 x.br, D.int IntKind.i64 x.who])), (45, T.junk)] ?_ fun h_1_2_3_4_9 => ?_
          · skip
            refine coreB.step [0] (by kernel_rfl) (by simp) ?_
            refine allB.cons rfl ?_ ?_
            · skip
              simp [encMoves_eq, encCus_eq, encMove_eq, h18, h25, hx, hxx]
              repeat refine ⟨by first | omega | assumption | (simp only [maxLen]; omega) | (intros; omega) | decide, ?_⟩
              exact contB.mk (by simp [Weak, TW, encMoves_eq, encCus_eq, encMove_eq]) h_0_1_2_3_4_9 (by kernel_rfl)
            exact allB.nil
          refine coreB.cut 8 #[true, true, true, true, false, false, false, false, false, false, false, false] [(0, T.val (D.int IntKind.i64 b)), (1, T.val ((D.agg [D.int IntKind.i64 zm.day, D.int IntKind.i64 zm.item, D.int IntKind.i64 zm.kind, D.int IntKind.i64 zm.br, D.int IntKind.i64 zm.who]).slice (List.map encMove l))), (2, T.val (D.int IntKind.i64 item)), (6, T.box [C.d (D.int IntKind.i64 0), C.d (D.int IntKind.i64 0), C.d (D.int IntKind.i64 0), C.d (D.int IntKind.i64 0)]), (7, T.junk), (8, T.junk), (9, T.box [C.d (D.int IntKind.i64 c.st), C.d (D.int IntKind.i64 c.br), C.d (D.int IntKind.i64 c.who), C.d (D.int IntKind.i64 c.to)]), (10, T.val (D.int IntKind.i64 ↑k)), (11, T.junk), (12, T.junk), (18, T.junk), (25, T.val (D.bool true)), (34, T.val (D.bool (x.item != item))), (36, T.val (D.agg [D.int IntKind.i64 c.st, D.int IntKind.i64 c.br, D.int IntKind.i64 c.who, D.int IntKind.i64 c.to])), (37, T.val ((D.agg [D.int IntKind.i64 zm.day, D.int IntKind.i64 zm.item, D.int IntKind.i64 zm.kind, D.int IntKind.i64 zm.br, D.int IntKind.i64 zm.who]).slice (List.map encMove l))), (38, T.val (D.int IntKind.i64 ↑k)), (39, T.val (D.ref [D.int IntKind.i64 x.day, D.int IntKind.i64 x.item, D.int IntKind.i64 x.kind, D.int IntKind.i64 x.br, D.int IntKind.i64 x.who])), (45, T.junk)] ?_ fun h_0_1_2_3 => ?_
          · skip
            refine coreB.step [4, 9] (by kernel_rfl) (by simp) ?_
            refine allB.cons rfl ?_ ?_
            · skip
              simp [encMoves_eq, encCus_eq, encMove_eq, h18, h25, hx, hxx]
              repeat refine ⟨by first | omega | assumption | (simp only [maxLen]; omega) | (intros; omega) | decide, ?_⟩
              exact contB.mk (by simp [Weak, TW, encMoves_eq, encCus_eq, encMove_eq]) h_0_1_2_3_4 (by kernel_rfl)
            refine allB.cons rfl ?_ ?_
            · skip
              simp [encMoves_eq, encCus_eq, encMove_eq, h18, h25, hx, hxx]
              repeat refine ⟨by first | omega | assumption | (simp only [maxLen]; omega) | (intros; omega) | decide, ?_⟩
              exact contB.mk (by simp [Weak, TW, encMoves_eq, encCus_eq, encMove_eq]) h_0_1_2_3_9 (by kernel_rfl)
            exact allB.nil
          refine coreB.cut 8 #[true, true, true, false, false, false, false, false, false, true, false, false] [(0, T.val (D.int IntKind.i64 b)), (1, T.val ((D.agg [D.int IntKind.i64 zm.day, D.int IntKind.i64 zm.item, D.int IntKind.i64 zm.kind, D.int IntKind.i64 zm.br, D.int IntKind.i64 zm.who]).slice (List.map encMove l))), (2, T.val (D.int IntKind.i64 item)), (6, T.box [C.d (D.int IntKind.i64 0), C.d (D.int IntKind.i64 0), C.d (D.int IntKind.i64 0), C.d (D.int IntKind.i64 0)]), (7, T.junk), (8, T.junk), (9, T.box [C.d (D.int IntKind.i64 c.st), C.d (D.int IntKind.i64 c.br), C.d (D.int IntKind.i64 c.who), C.d (D.int IntKind.i64 c.to)]), (10, T.val (D.int IntKind.i64 ↑k)), (11, T.box [C.d (D.int IntKind.i64 0), C.d (D.int IntKind.i64 0), C.d (D.int IntKind.i64 0), C.d (D.int IntKind.i64 0)]), (12, T.junk), (18, T.junk), (25, T.val (D.bool true)), (34, T.val (D.bool (x.item != item))), (36, T.val (D.agg [D.int IntKind.i64 c.st, D.int IntKind.i64 c.br, D.int IntKind.i64 c.who, D.int IntKind.i64 c.to])), (37, T.val ((D.agg [D.int IntKind.i64 zm.day, D.int IntKind.i64 zm.item, D.int IntKind.i64 zm.kind, D.int IntKind.i64 zm.br, D.int IntKind.i64 zm.who]).slice (List.map encMove l))), (38, T.val (D.int IntKind.i64 ↑k)), (45, T.junk)] ?_ fun h_0_1_2_9 => ?_
          · skip
            refine coreB.step [3] (by kernel_rfl) (by simp) ?_
            refine allB.cons rfl ?_ ?_
            · skip
              simp [encMoves_eq, encCus_eq, encMove_eq, h18, h25, hx, hxx]
              repeat refine ⟨by first | omega | assumption | (simp only [maxLen]; omega) | (intros; omega) | decide, ?_⟩
              exact contB.mk (by simp [Weak, TW, encMoves_eq, encCus_eq, encMove_eq]) h_0_1_2_3_9 (by kernel_rfl)
            exact allB.nil
          refine coreB.cut 8 #[false, true, true, true, true, false, false, false, false, false, false, false] [(0, T.val (D.int IntKind.i64 b)), (1, T.val ((D.agg [D.int IntKind.i64 zm.day, D.int IntKind.i64 zm.item, D.int IntKind.i64 zm.kind, D.int IntKind.i64 zm.br, D.int IntKind.i64 zm.who]).slice (List.map encMove l))), (2, T.val (D.int IntKind.i64 item)), (6, T.box [C.d (D.int IntKind.i64 0), C.d (D.int IntKind.i64 0), C.d (D.int IntKind.i64 0), C.d (D.int IntKind.i64 0)]), (7, T.junk), (8, T.junk), (9, T.box [C.d (D.int IntKind.i64 c.st), C.d (D.int IntKind.i64 c.br), C.d (D.int IntKind.i64 c.who), C.d (D.int IntKind.i64 c.to)]), (10, T.val (D.int IntKind.i64 ↑k)), (11, T.junk), (12, T.junk), (18, T.junk), (25, T.val (D.bool true)), (34, T.val (D.bool (x.item != item))), (37, T.val ((D.agg [D.int IntKind.i64 zm.day, D.int IntKind.i64 zm.item, D.int IntKind.i64 zm.kind, D.int IntKind.i64 zm.br, D.int IntKind.i64 zm.who]).slice (List.map encMove l))), (38, T.val (D.int IntKind.i64 ↑k)), (39, T.val (D.ref [D.int IntKind.i64 x.day, D.int IntKind.i64 x.item, D.int IntKind.i64 x.kind, D.int IntKind.i64 x.br, D.int IntKind.i64 x.who])), (40, T.val (D.agg [D.int IntKind.i64 x.day, D.int IntKind.i64 x.item, D.int IntKind.i64 x.kind, D.int IntKind.i64 x.br, D.int IntKind.i64 x.who])), (45, T.junk)] ?_ fun h_1_2_3_4 => ?_
          · skip
            refine coreB.step [0, 9] (by kernel_rfl) (by simp) ?_
            refine allB.cons rfl ?_ ?_
            · skip
              simp [encMoves_eq, encCus_eq, encMove_eq, h18, h25, hx, hxx]
              repeat refine ⟨by first | omega | assumption | (simp only [maxLen]; omega) | (intros; omega) | decide, ?_⟩
              exact contB.mk (by simp [Weak, TW, encMoves_eq, encCus_eq, encMove_eq]) h_0_1_2_3_4 (by kernel_rfl)
            refine allB.cons rfl ?_ ?_
            · skip
              simp [encMoves_eq, encCus_eq, encMove_eq, h18, h25, hx, hxx]
              repeat refine ⟨by first | omega | assumption | (simp only [maxLen]; omega) | (intros; omega) | decide, ?_⟩
              exact contB.mk (by simp [Weak, TW, encMoves_eq, encCus_eq, encMove_eq]) h_1_2_3_4_9 (by kernel_rfl)
            exact allB.nil
          refine coreB.cut 8 #[false, true, true, true, false, false, false, false, false, true, false, false] [(0, T.val (D.int IntKind.i64 b)), (1, T.val ((D.agg [D.int IntKind.i64 zm.day, D.int IntKind.i64 zm.item, D.int IntKind.i64 zm.kind, D.int IntKind.i64 zm.br, D.int IntKind.i64 zm.who]).slice (List.map encMove l))), (2, T.val (D.int IntKind.i64 item)), (6, T.box [C.d (D.int IntKind.i64 0), C.d (D.int IntKind.i64 0), C.d (D.int IntKind.i64 0), C.d (D.int IntKind.i64 0)]), (7, T.junk), (8, T.junk), (9, T.box [C.d (D.int IntKind.i64 c.st), C.d (D.int IntKind.i64 c.br), C.d (D.int IntKind.i64 c.who), C.d (D.int IntKind.i64 c.to)]), (10, T.val (D.int IntKind.i64 ↑k)), (11, T.box [C.d (D.int IntKind.i64 0), C.d (D.int IntKind.i64 0), C.d (D.int IntKind.i64 0), C.d (D.int IntKind.i64 0)]), (12, T.junk), (18, T.junk), (25, T.val (D.bool true)), (34, T.val (D.bool (x.item != item))), (37, T.val ((D.agg [D.int IntKind.i64 zm.day, D.int IntKind.i64 zm.item, D.int IntKind.i64 zm.kind, D.int IntKind.i64 zm.br, D.int IntKind.i64 zm.who]).slice (List.map encMove l))), (38, T.val (D.int IntKind.i64 ↑k)), (39, T.val (D.ref [D.int IntKind.i64 x.day, D.int IntKind.i64 x.item, D.int IntKind.i64 x.kind, D.int IntKind.i64 x.br, D.int IntKind.i64 x.who])), (45, T.junk)] ?_ fun h_1_2_3_9 => ?_
          · skip
            refine coreB.step [0, 4] (by kernel_rfl) (by simp) ?_
            refine allB.cons rfl ?_ ?_
            · skip
              simp [encMoves_eq, encCus_eq, encMove_eq, h18, h25, hx, hxx]
              repeat refine ⟨by first | omega | assumption | (simp only [maxLen]; omega) | (intros; omega) | decide, ?_⟩
              exact contB.mk (by simp [Weak, TW, encMoves_eq, encCus_eq, encMove_eq]) h_0_1_2_3_9 (by kernel_rfl)
            refine allB.cons rfl ?_ ?_
            · skip
              simp [encMoves_eq, encCus_eq, encMove_eq, h18, h25, hx, hxx]
              repeat refine ⟨by first | omega | assumption | (simp only [maxLen]; omega) | (intros; omega) | decide, ?_⟩
              exact contB.mk (by simp [Weak, TW, encMoves_eq, encCus_eq, encMove_eq]) h_1_2_3_4_9 (by kernel_rfl)
            exact allB.nil
          refine coreB.cut 9 #[true, true, true, false, false, false, false, false, false, false, false, false] [(0, T.val (D.int IntKind.i64 b)), (1, T.val ((D.agg [D.int IntKind.i64 zm.day, D.int IntKind.i64 zm.item, D.int IntKind.i64 zm.kind, D.int IntKind.i64 zm.br, D.int IntKind.i64 zm.who]).slice (List.map encMove l))), (2, T.val (D.int IntKind.i64 item)), (6, T.box [C.d (D.int IntKind.i64 0), C.d (D.int IntKind.i64 0), C.d (D.int IntKind.i64 0), C.d (D.int IntKind.i64 0)]), (7, T.junk), (8, T.junk), (9, T.box [C.d (D.int IntKind.i64 c.st), C.d (D.int IntKind.i64 c.br), C.d (D.int IntKind.i64 c.who), C.d (D.int IntKind.i64 c.to)]), (10, T.val (D.int IntKind.i64 ↑k)), (11, T.junk), (12, T.junk), (18, T.junk), (25, T.val (D.bool true)), (34, T.val (D.bool (x.item != item))), (36, T.val (D.agg [D.int IntKind.i64 c.st, D.int IntKind.i64 c.br, D.int IntKind.i64 c.who, D.int IntKind.i64 c.to])), (37, T.val ((D.agg [D.int IntKind.i64 zm.day, D.int IntKind.i64 zm.item, D.int IntKind.i64 zm.kind, D.int IntKind.i64 zm.br, D.int IntKind.i64 zm.who]).slice (List.map encMove l))), (38, T.val (D.int IntKind.i64 ↑k)), (45, T.junk)] ?_ fun h_0_1_2 => ?_
          · skip
            refine coreB.step [3, 9] (by kernel_rfl) (by simp) ?_
            refine allB.cons rfl ?_ ?_
            · skip
              simp [encMoves_eq, encCus_eq, encMove_eq, h18, h25, hx, hxx]
              repeat refine ⟨by first | omega | assumption | (simp only [maxLen]; omega) | (intros; omega) | decide, ?_⟩
              exact contB.mk (by simp [Weak, TW, encMoves_eq, encCus_eq, encMove_eq]) h_0_1_2_3 (by kernel_rfl)
            refine allB.cons rfl ?_ ?_
            · skip
              simp [encMoves_eq, encCus_eq, encMove_eq, h18, h25, hx, hxx]
              repeat refine ⟨by first | omega | assumption | (simp only [maxLen]; omega) | (intros; omega) | decide, ?_⟩
              exact contB.mk (by simp [Weak, TW, encMoves_eq, encCus_eq, encMove_eq]) h_0_1_2_9 (by kernel_rfl)
            exact allB.nil
          refine coreB.cut 9 #[true, true, false, false, false, false, false, false, false, true, false, false] [(0, T.val (D.int IntKind.i64 b)), (1, T.val ((D.agg [D.int IntKind.i64 zm.day, D.int IntKind.i64 zm.item, D.int IntKind.i64 zm.kind, D.int IntKind.i64 zm.br, D.int IntKind.i64 zm.who]).slice (List.map encMove l))), (2, T.val (D.int IntKind.i64 item)), (6, T.box [C.d (D.int IntKind.i64 0), C.d (D.int IntKind.i64 0), C.d (D.int IntKind.i64 0), C.d (D.int IntKind.i64 0)]), (7, T.junk), (8, T.junk), (9, T.box [C.d (D.int IntKind.i64 c.st), C.d (D.int IntKind.i64 c.br), C.d (D.int IntKind.i64 c.who), C.d (D.int IntKind.i64 c.to)]), (10, T.val (D.int IntKind.i64 ↑k)), (11, T.box [C.d (D.int IntKind.i64 0), C.d (D.int IntKind.i64 0), C.d (D.int IntKind.i64 0), C.d (D.int IntKind.i64 0)]), (12, T.junk), (18, T.junk), (25, T.val (D.bool true)), (34, T.val (D.bool (x.item != item))), (36, T.val (D.agg [D.int IntKind.i64 c.st, D.int IntKind.i64 c.br, D.int IntKind.i64 c.who, D.int IntKind.i64 c.to])), (37, T.val ((D.agg [D.int IntKind.i64 zm.day, D.int IntKind.i64 zm.item, D.int IntKind.i64 zm.kind, D.int IntKind.i64 zm.br, D.int IntKind.i64 zm.who]).slice (List.map encMove l))), (45, T.junk)] ?_ fun h_0_1_9 => ?_
          · skip
            refine coreB.step [2] (by kernel_rfl) (by simp) ?_
            refine allB.cons rfl ?_ ?_
            · skip
              simp [encMoves_eq, encCus_eq, encMove_eq, h18, h25, hx, hxx]
              repeat refine ⟨by first | omega | assumption | (simp only [maxLen]; omega) | (intros; omega) | decide, ?_⟩
              exact contB.mk (by simp [Weak, TW, encMoves_eq, encCus_eq, encMove_eq]) h_0_1_2_9 (by kernel_rfl)
            exact allB.nil
          refine coreB.cut 9 #[true, false, true, false, false, false, false, false, false, true, false, false] [(0, T.val (D.int IntKind.i64 b)), (1, T.val ((D.agg [D.int IntKind.i64 zm.day, D.int IntKind.i64 zm.item, D.int IntKind.i64 zm.kind, D.int IntKind.i64 zm.br, D.int IntKind.i64 zm.who]).slice (List.map encMove l))), (2, T.val (D.int IntKind.i64 item)), (6, T.box [C.d (D.int IntKind.i64 0), C.d (D.int IntKind.i64 0), C.d (D.int IntKind.i64 0), C.d (D.int IntKind.i64 0)]), (7, T.junk), (8, T.junk), (9, T.box [C.d (D.int IntKind.i64 c.st), C.d (D.int IntKind.i64 c.br), C.d (D.int IntKind.i64 c.who), C.d (D.int IntKind.i64 c.to)]), (10, T.val (D.int IntKind.i64 ↑k)), (11, T.box [C.d (D.int IntKind.i64 0), C.d (D.int IntKind.i64 0), C.d (D.int IntKind.i64 0), C.d (D.int IntKind.i64 0)]), (12, T.junk), (18, T.junk), (25, T.val (D.bool true)), (34, T.val (D.bool (x.item != item))), (36, T.val (D.agg [D.int IntKind.i64 c.st, D.int IntKind.i64 c.br, D.int IntKind.i64 c.who, D.int IntKind.i64 c.to])), (38, T.val (D.int IntKind.i64 ↑k)), (45, T.junk)] ?_ fun h_0_2_9 => ?_
          · skip
            refine coreB.step [1] (by kernel_rfl) (by simp) ?_
            refine allB.cons rfl ?_ ?_
            · skip
              simp [encMoves_eq, encCus_eq, encMove_eq, h18, h25, hx, hxx]
              repeat refine ⟨by first | omega | assumption | (simp only [maxLen]; omega) | (intros; omega) | decide, ?_⟩
              exact contB.mk (by simp [Weak, TW, encMoves_eq, encCus_eq, encMove_eq]) h_0_1_2_9 (by kernel_rfl)
            exact allB.nil
          refine coreB.cut 9 #[false, true, true, true, false, false, false, false, false, false, false, false] [(0, T.val (D.int IntKind.i64 b)), (1, T.val ((D.agg [D.int IntKind.i64 zm.day, D.int IntKind.i64 zm.item, D.int IntKind.i64 zm.kind, D.int IntKind.i64 zm.br, D.int IntKind.i64 zm.who]).slice (List.map encMove l))), (2, T.val (D.int IntKind.i64 item)), (6, T.box [C.d (D.int IntKind.i64 0), C.d (D.int IntKind.i64 0), C.d (D.int IntKind.i64 0), C.d (D.int IntKind.i64 0)]), (7, T.junk), (8, T.junk), (9, T.box [C.d (D.int IntKind.i64 c.st), C.d (D.int IntKind.i64 c.br), C.d (D.int IntKind.i64 c.who), C.d (D.int IntKind.i64 c.to)]), (10, T.val (D.int IntKind.i64 ↑k)), (11, T.junk), (12, T.junk), (18, T.junk), (25, T.val (D.bool true)), (34, T.val (D.bool (x.item != item))), (37, T.val ((D.agg [D.int IntKind.i64 zm.day, D.int IntKind.i64 zm.item, D.int IntKind.i64 zm.kind, D.int IntKind.i64 zm.br, D.int IntKind.i64 zm.who]).slice (List.map encMove l))), (38, T.val (D.int IntKind.i64 ↑k)), (39, T.val (D.ref [D.int IntKind.i64 x.day, D.int IntKind.i64 x.item, D.int IntKind.i64 x.kind, D.int IntKind.i64 x.br, D.int IntKind.i64 x.who])), (45, T.junk)] ?_ fun h_1_2_3 => ?_
          · skip
            refine coreB.step [0, 4, 9] (by kernel_rfl) (by simp) ?_
            refine allB.cons rfl ?_ ?_
            · skip
              simp [encMoves_eq, encCus_eq, encMove_eq, h18, h25, hx, hxx]
              repeat refine ⟨by first | omega | assumption | (simp only [maxLen]; omega) | (intros; omega) | decide, ?_⟩
              exact contB.mk (by simp [Weak, TW, encMoves_eq, encCus_eq, encMove_eq]) h_0_1_2_3 (by kernel_rfl)
            refine allB.cons rfl ?_ ?_
            · skip
              simp [encMoves_eq, encCus_eq, encMove_eq, h18, h25, hx, hxx]
              repeat refine ⟨by first | omega | assumption | (simp only [maxLen]; omega) | (intros; omega) | decide, ?_⟩
              exact contB.mk (by simp [Weak, TW, encMoves_eq, encCus_eq, encMove_eq]) h_1_2_3_4 (by kernel_rfl)
            refine allB.cons rfl ?_ ?_
            · skip
              simp [encMoves_eq, encCus_eq, encMove_eq, h18, h25, hx, hxx]
              repeat refine ⟨by first | omega | assumption | (simp only [maxLen]; omega) | (intros; omega) | decide, ?_⟩
              exact contB.mk (by simp [Weak, TW, encMoves_eq, encCus_eq, encMove_eq]) h_1_2_3_9 (by kernel_rfl)
            exact allB.nil
          refine coreB.cut 9 #[false, true, true, false, false, false, false, false, false, true, false, false] [(0, T.val (D.int IntKind.i64 b)), (1, T.val ((D.agg [D.int IntKind.i64 zm.day, D.int IntKind.i64 zm.item, D.int IntKind.i64 zm.kind, D.int IntKind.i64 zm.br, D.int IntKind.i64 zm.who]).slice (List.map encMove l))), (2, T.val (D.int IntKind.i64 item)), (6, T.box [C.d (D.int IntKind.i64 0), C.d (D.int IntKind.i64 0), C.d (D.int IntKind.i64 0), C.d (D.int IntKind.i64 0)]), (7, T.junk), (8, T.junk), (9, T.box [C.d (D.int IntKind.i64 c.st), C.d (D.int IntKind.i64 c.br), C.d (D.int IntKind.i64 c.who), C.d (D.int IntKind.i64 c.to)]), (10, T.val (D.int IntKind.i64 ↑k)), (11, T.box [C.d (D.int IntKind.i64 0), C.d (D.int IntKind.i64 0), C.d (D.int IntKind.i64 0), C.d (D.int IntKind.i64 0)]), (12, T.junk), (18, T.junk), (25, T.val (D.bool true)), (34, T.val (D.bool (x.item != item))), (37, T.val ((D.agg [D.int IntKind.i64 zm.day, D.int IntKind.i64 zm.item, D.int IntKind.i64 zm.kind, D.int IntKind.i64 zm.br, D.int IntKind.i64 zm.who]).slice (List.map encMove l))), (38, T.val (D.int IntKind.i64 ↑k)), (45, T.junk)] ?_ fun h_1_2_9 => ?_
          · skip
            refine coreB.step [0, 3] (by kernel_rfl) (by simp) ?_
            refine allB.cons rfl ?_ ?_
            · skip
              simp [encMoves_eq, encCus_eq, encMove_eq, h18, h25, hx, hxx]
              repeat refine ⟨by first | omega | assumption | (simp only [maxLen]; omega) | (intros; omega) | decide, ?_⟩
              exact contB.mk (by simp [Weak, TW, encMoves_eq, encCus_eq, encMove_eq]) h_0_1_2_9 (by kernel_rfl)
            refine allB.cons rfl ?_ ?_
            · skip
              simp [encMoves_eq, encCus_eq, encMove_eq, h18, h25, hx, hxx]
              repeat refine ⟨by first | omega | assumption | (simp only [maxLen]; omega) | (intros; omega) | decide, ?_⟩
              exact contB.mk (by simp [Weak, TW, encMoves_eq, encCus_eq, encMove_eq]) h_1_2_3_9 (by kernel_rfl)
            exact allB.nil
          refine coreB.cut 10 #[true, true, false, false, false, false, false, false, false, false, false, false] [(0, T.val (D.int IntKind.i64 b)), (1, T.val ((D.agg [D.int IntKind.i64 zm.day, D.int IntKind.i64 zm.item, D.int IntKind.i64 zm.kind, D.int IntKind.i64 zm.br, D.int IntKind.i64 zm.who]).slice (List.map encMove l))), (2, T.val (D.int IntKind.i64 item)), (6, T.box [C.d (D.int IntKind.i64 0), C.d (D.int IntKind.i64 0), C.d (D.int IntKind.i64 0), C.d (D.int IntKind.i64 0)]), (7, T.junk), (8, T.junk), (9, T.box [C.d (D.int IntKind.i64 c.st), C.d (D.int IntKind.i64 c.br), C.d (D.int IntKind.i64 c.who), C.d (D.int IntKind.i64 c.to)]), (10, T.val (D.int IntKind.i64 ↑k)), (11, T.junk), (12, T.junk), (18, T.junk), (25, T.val (D.bool true)), (34, T.val (D.bool (x.item != item))), (36, T.val (D.agg [D.int IntKind.i64 c.st, D.int IntKind.i64 c.br, D.int IntKind.i64 c.who, D.int IntKind.i64 c.to])), (37, T.val ((D.agg [D.int IntKind.i64 zm.day, D.int IntKind.i64 zm.item, D.int IntKind.i64 zm.kind, D.int IntKind.i64 zm.br, D.int IntKind.i64 zm.who]).slice (List.map encMove l))), (45, T.junk)] ?_ fun h_0_1 => ?_
          · skip
            refine coreB.step [2, 9] (by kernel_rfl) (by simp) ?_
            refine allB.cons rfl ?_ ?_
            · skip
              simp [encMoves_eq, encCus_eq, encMove_eq, h18, h25, hx, hxx]
              repeat refine ⟨by first | omega | assumption | (simp only [maxLen]; omega) | (intros; omega) | decide, ?_⟩
              exact contB.mk (by simp [Weak, TW, encMoves_eq, encCus_eq, encMove_eq]) h_0_1_2 (by kernel_rfl)
            refine allB.cons rfl ?_ ?_
            · skip
              simp [encMoves_eq, encCus_eq, encMove_eq, h18, h25, hx, hxx]
              repeat refine ⟨by first | omega | assumption | (simp only [maxLen]; omega) | (intros; omega) | decide, ?_⟩
              exact contB.mk (by simp [Weak, TW, encMoves_eq, encCus_eq, encMove_eq]) h_0_1_9 (by kernel_rfl)
            exact allB.nil
          refine coreB.cut 10 #[true, false, true, false, false, false, false, false, false, false, false, false] [(0, T.val (D.int IntKind.i64 b)), (1, T.val ((D.agg [D.int IntKind.i64 zm.day, D.int IntKind.i64 zm.item, D.int IntKind.i64 zm.kind, D.int IntKind.i64 zm.br, D.int IntKind.i64 zm.who]).slice (List.map encMove l))), (2, T.val (D.int IntKind.i64 item)), (6, T.box [C.d (D.int IntKind.i64 0), C.d (D.int IntKind.i64 0), C.d (D.int IntKind.i64 0), C.d (D.int IntKind.i64 0)]), (7, T.junk), (8, T.junk), (9, T.box [C.d (D.int IntKind.i64 c.st), C.d (D.int IntKind.i64 c.br), C.d (D.int IntKind.i64 c.who), C.d (D.int IntKind.i64 c.to)]), (10, T.val (D.int IntKind.i64 ↑k)), (11, T.junk), (12, T.junk), (18, T.junk), (25, T.val (D.bool true)), (34, T.val (D.bool (x.item != item))), (36, T.val (D.agg [D.int IntKind.i64 c.st, D.int IntKind.i64 c.br, D.int IntKind.i64 c.who, D.int IntKind.i64 c.to])), (38, T.val (D.int IntKind.i64 ↑k)), (45, T.junk)] ?_ fun h_0_2 => ?_
          · skip
            refine coreB.step [1, 9] (by kernel_rfl) (by simp) ?_
            refine allB.cons rfl ?_ ?_
            · skip
              simp [encMoves_eq, encCus_eq, encMove_eq, h18, h25, hx, hxx]
              repeat refine ⟨by first | omega | assumption | (simp only [maxLen]; omega) | (intros; omega) | decide, ?_⟩
              exact contB.mk (by simp [Weak, TW, encMoves_eq, encCus_eq, encMove_eq]) h_0_1_2 (by kernel_rfl)
            refine allB.cons rfl ?_ ?_
            · skip
              simp [encMoves_eq, encCus_eq, encMove_eq, h18, h25, hx, hxx]
              repeat refine ⟨by first | omega | assumption | (simp only [maxLen]; omega) | (intros; omega) | decide, ?_⟩
              exact contB.mk (by simp [Weak, TW, encMoves_eq, encCus_eq, encMove_eq]) h_0_2_9 (by kernel_rfl)
            exact allB.nil
          refine coreB.cut 10 #[true, false, false, false, false, false, false, false, false, true, false, false] [(0, T.val (D.int IntKind.i64 b)), (1, T.val ((D.agg [D.int IntKind.i64 zm.day, D.int IntKind.i64 zm.item, D.int IntKind.i64 zm.kind, D.int IntKind.i64 zm.br, D.int IntKind.i64 zm.who]).slice (List.map encMove l))), (2, T.val (D.int IntKind.i64 item)), (6, T.box [C.d (D.int IntKind.i64 0), C.d (D.int IntKind.i64 0), C.d (D.int IntKind.i64 0), C.d (D.int IntKind.i64 0)]), (7, T.junk), (8, T.junk), (9, T.box [C.d (D.int IntKind.i64 c.st), C.d (D.int IntKind.i64 c.br), C.d (D.int IntKind.i64 c.who), C.d (D.int IntKind.i64 c.to)]), (10, T.val (D.int IntKind.i64 ↑k)), (11, T.box [C.d (D.int IntKind.i64 0), C.d (D.int IntKind.i64 0), C.d (D.int IntKind.i64 0), C.d (D.int IntKind.i64 0)]), (12, T.junk), (18, T.junk), (25, T.val (D.bool true)), (34, T.val (D.bool (x.item != item))), (36, T.val (D.agg [D.int IntKind.i64 c.st, D.int IntKind.i64 c.br, D.int IntKind.i64 c.who, D.int IntKind.i64 c.to])), (45, T.junk)] ?_ fun h_0_9 => ?_
          · skip
            refine coreB.step [1, 2] (by kernel_rfl) (by simp) ?_
            refine allB.cons rfl ?_ ?_
            · skip
              simp [encMoves_eq, encCus_eq, encMove_eq, h18, h25, hx, hxx]
              repeat refine ⟨by first | omega | assumption | (simp only [maxLen]; omega) | (intros; omega) | decide, ?_⟩
              exact contB.mk (by simp [Weak, TW, encMoves_eq, encCus_eq, encMove_eq]) h_0_1_9 (by kernel_rfl)
            refine allB.cons rfl ?_ ?_
            · skip
              simp [encMoves_eq, encCus_eq, encMove_eq, h18, h25, hx, hxx]
              repeat refine ⟨by first | omega | assumption | (simp only [maxLen]; omega) | (intros; omega) | decide, ?_⟩
              exact contB.mk (by simp [Weak, TW, encMoves_eq, encCus_eq, encMove_eq]) h_0_2_9 (by kernel_rfl)
            exact allB.nil
          refine coreB.cut 10 #[false, true, true, false, false, false, false, false, false, false, false, false] [(0, T.val (D.int IntKind.i64 b)), (1, T.val ((D.agg [D.int IntKind.i64 zm.day, D.int IntKind.i64 zm.item, D.int IntKind.i64 zm.kind, D.int IntKind.i64 zm.br, D.int IntKind.i64 zm.who]).slice (List.map encMove l))), (2, T.val (D.int IntKind.i64 item)), (6, T.box [C.d (D.int IntKind.i64 0), C.d (D.int IntKind.i64 0), C.d (D.int IntKind.i64 0), C.d (D.int IntKind.i64 0)]), (7, T.junk), (8, T.junk), (9, T.box [C.d (D.int IntKind.i64 c.st), C.d (D.int IntKind.i64 c.br), C.d (D.int IntKind.i64 c.who), C.d (D.int IntKind.i64 c.to)]), (10, T.val (D.int IntKind.i64 ↑k)), (11, T.junk), (12, T.junk), (18, T.junk), (25, T.val (D.bool true)), (34, T.val (D.bool (x.item != item))), (37, T.val ((D.agg [D.int IntKind.i64 zm.day, D.int IntKind.i64 zm.item, D.int IntKind.i64 zm.kind, D.int IntKind.i64 zm.br, D.int IntKind.i64 zm.who]).slice (List.map encMove l))), (38, T.val (D.int IntKind.i64 ↑k)), (45, T.junk)] ?_ fun h_1_2 => ?_
          · skip
            refine coreB.step [0, 3, 9] (by kernel_rfl) (by simp) ?_
            refine allB.cons rfl ?_ ?_
            · skip
              simp [encMoves_eq, encCus_eq, encMove_eq, h18, h25, hx, hxx]
              repeat refine ⟨by first | omega | assumption | (simp only [maxLen]; omega) | (intros; omega) | decide, ?_⟩
              exact contB.mk (by simp [Weak, TW, encMoves_eq, encCus_eq, encMove_eq]) h_0_1_2 (by kernel_rfl)
            refine allB.cons rfl ?_ ?_
            · skip
              simp [encMoves_eq, encCus_eq, encMove_eq, h18, h25, hx, hxx]
              repeat refine ⟨by first | omega | assumption | (simp only [maxLen]; omega) | (intros; omega) | decide, ?_⟩
              exact contB.mk (by simp [Weak, TW, encMoves_eq, encCus_eq, encMove_eq]) h_1_2_3 (by kernel_rfl)
            refine allB.cons rfl ?_ ?_
            · skip
              simp [encMoves_eq, encCus_eq, encMove_eq, h18, h25, hx, hxx]
              repeat refine ⟨by first | omega | assumption | (simp only [maxLen]; omega) | (intros; omega) | decide, ?_⟩
              exact contB.mk (by simp [Weak, TW, encMoves_eq, encCus_eq, encMove_eq]) h_1_2_9 (by kernel_rfl)
            exact allB.nil
          refine coreB.cut 10 #[false, true, false, false, false, false, false, false, false, true, false, false] [(0, T.val (D.int IntKind.i64 b)), (1, T.val ((D.agg [D.int IntKind.i64 zm.day, D.int IntKind.i64 zm.item, D.int IntKind.i64 zm.kind, D.int IntKind.i64 zm.br, D.int IntKind.i64 zm.who]).slice (List.map encMove l))), (2, T.val (D.int IntKind.i64 item)), (6, T.box [C.d (D.int IntKind.i64 0), C.d (D.int IntKind.i64 0), C.d (D.int IntKind.i64 0), C.d (D.int IntKind.i64 0)]), (7, T.junk), (8, T.junk), (9, T.box [C.d (D.int IntKind.i64 c.st), C.d (D.int IntKind.i64 c.br), C.d (D.int IntKind.i64 c.who), C.d (D.int IntKind.i64 c.to)]), (10, T.val (D.int IntKind.i64 ↑k)), (11, T.box [C.d (D.int IntKind.i64 0), C.d (D.int IntKind.i64 0), C.d (D.int IntKind.i64 0), C.d (D.int IntKind.i64 0)]), (12, T.junk), (18, T.junk), (25, T.val (D.bool true)), (34, T.val (D.bool (x.item != item))), (37, T.val ((D.agg [D.int IntKind.i64 zm.day, D.int IntKind.i64 zm.item, D.int IntKind.i64 zm.kind, D.int IntKind.i64 zm.br, D.int IntKind.i64 zm.who]).slice (List.map encMove l))), (45, T.junk)] ?_ fun h_1_9 => ?_
          · skip
            refine coreB.step [0, 2] (by kernel_rfl) (by simp) ?_
            refine allB.cons rfl ?_ ?_
            · skip
              simp [encMoves_eq, encCus_eq, encMove_eq, h18, h25, hx, hxx]
              repeat refine ⟨by first | omega | assumption | (simp only [maxLen]; omega) | (intros; omega) | decide, ?_⟩
              exact contB.mk (by simp [Weak, TW, encMoves_eq, encCus_eq, encMove_eq]) h_0_1_9 (by kernel_rfl)
            refine allB.cons rfl ?_ ?_
            · skip
              simp [encMoves_eq, encCus_eq, encMove_eq, h18, h25, hx, hxx]
              repeat refine ⟨by first | omega | assumption | (simp only [maxLen]; omega) | (intros; omega) | decide, ?_⟩
              exact contB.mk (by simp [Weak, TW, encMoves_eq, encCus_eq, encMove_eq]) h_1_2_9 (by kernel_rfl)
            exact allB.nil
          refine coreB.cut 10 #[false, false, true, false, false, false, false, false, false, true, false, false] [(0, T.val (D.int IntKind.i64 b)), (1, T.val ((D.agg [D.int IntKind.i64 zm.day, D.int IntKind.i64 zm.item, D.int IntKind.i64 zm.kind, D.int IntKind.i64 zm.br, D.int IntKind.i64 zm.who]).slice (List.map encMove l))), (2, T.val (D.int IntKind.i64 item)), (6, T.box [C.d (D.int IntKind.i64 0), C.d (D.int IntKind.i64 0), C.d (D.int IntKind.i64 0), C.d (D.int IntKind.i64 0)]), (7, T.junk), (8, T.junk), (9, T.box [C.d (D.int IntKind.i64 c.st), C.d (D.int IntKind.i64 c.br), C.d (D.int IntKind.i64 c.who), C.d (D.int IntKind.i64 c.to)]), (10, T.val (D.int IntKind.i64 ↑k)), (11, T.box [C.d (D.int IntKind.i64 0), C.d (D.int IntKind.i64 0), C.d (D.int IntKind.i64 0), C.d (D.int IntKind.i64 0)]), (12, T.junk), (18, T.junk), (25, T.val (D.bool true)), (34, T.val (D.bool (x.item != item))), (38, T.val (D.int IntKind.i64 ↑k)), (45, T.junk)] ?_ fun h_2_9 => ?_
          · skip
            refine coreB.step [0, 1] (by kernel_rfl) (by simp) ?_
            refine allB.cons rfl ?_ ?_
            · skip
              simp [encMoves_eq, encCus_eq, encMove_eq, h18, h25, hx, hxx]
              repeat refine ⟨by first | omega | assumption | (simp only [maxLen]; omega) | (intros; omega) | decide, ?_⟩
              exact contB.mk (by simp [Weak, TW, encMoves_eq, encCus_eq, encMove_eq]) h_0_2_9 (by kernel_rfl)
            refine allB.cons rfl ?_ ?_
            · skip
              simp [encMoves_eq, encCus_eq, encMove_eq, h18, h25, hx, hxx]
              repeat refine ⟨by first | omega | assumption | (simp only [maxLen]; omega) | (intros; omega) | decide, ?_⟩
              exact contB.mk (by simp [Weak, TW, encMoves_eq, encCus_eq, encMove_eq]) h_1_2_9 (by kernel_rfl)
            exact allB.nil
          refine coreB.cut 11 #[true, false, false, false, false, false, false, false, false, false, false, false] [(0, T.val (D.int IntKind.i64 b)), (1, T.val ((D.agg [D.int IntKind.i64 zm.day, D.int IntKind.i64 zm.item, D.int IntKind.i64 zm.kind, D.int IntKind.i64 zm.br, D.int IntKind.i64 zm.who]).slice (List.map encMove l))), (2, T.val (D.int IntKind.i64 item)), (6, T.box [C.d (D.int IntKind.i64 0), C.d (D.int IntKind.i64 0), C.d (D.int IntKind.i64 0), C.d (D.int IntKind.i64 0)]), (7, T.junk), (8, T.junk), (9, T.box [C.d (D.int IntKind.i64 c.st), C.d (D.int IntKind.i64 c.br), C.d (D.int IntKind.i64 c.who), C.d (D.int IntKind.i64 c.to)]), (10, T.val (D.int IntKind.i64 ↑k)), (11, T.junk), (12, T.junk), (18, T.junk), (25, T.val (D.bool true)), (34, T.val (D.bool (x.item != item))), (36, T.val (D.agg [D.int IntKind.i64 c.st, D.int IntKind.i64 c.br, D.int IntKind.i64 c.who, D.int IntKind.i64 c.to])), (45, T.junk)] ?_ fun h_0 => ?_
          · skip
            refine coreB.step [1, 2, 9] (by kernel_rfl) (by simp) ?_
            refine allB.cons rfl ?_ ?_
            · skip
              simp [encMoves_eq, encCus_eq, encMove_eq, h18, h25, hx, hxx]
              repeat refine ⟨by first | omega | assumption | (simp only [maxLen]; omega) | (intros; omega) | decide, ?_⟩
              exact contB.mk (by simp [Weak, TW, encMoves_eq, encCus_eq, encMove_eq]) h_0_1 (by kernel_rfl)
            refine allB.cons rfl ?_ ?_
            · skip
              simp [encMoves_eq, encCus_eq, encMove_eq, h18, h25, hx, hxx]
              repeat refine ⟨by first | omega | assumption | (simp only [maxLen]; omega) | (intros; omega) | decide, ?_⟩
              exact contB.mk (by simp [Weak, TW, encMoves_eq, encCus_eq, encMove_eq]) h_0_2 (by kernel_rfl)
            refine allB.cons rfl ?_ ?_
            · skip
              simp [encMoves_eq, encCus_eq, encMove_eq, h18, h25, hx, hxx]
              repeat refine ⟨by first | omega | assumption | (simp only [maxLen]; omega) | (intros; omega) | decide, ?_⟩
              exact contB.mk (by simp [Weak, TW, encMoves_eq, encCus_eq, encMove_eq]) h_0_9 (by kernel_rfl)
            exact allB.nil
          refine coreB.cut 11 #[false, true, false, false, false, false, false, false, false, false, false, false] [(0, T.val (D.int IntKind.i64 b)), (1, T.val ((D.agg [D.int IntKind.i64 zm.day, D.int IntKind.i64 zm.item, D.int IntKind.i64 zm.kind, D.int IntKind.i64 zm.br, D.int IntKind.i64 zm.who]).slice (List.map encMove l))), (2, T.val (D.int IntKind.i64 item)), (6, T.box [C.d (D.int IntKind.i64 0), C.d (D.int IntKind.i64 0), C.d (D.int IntKind.i64 0), C.d (D.int IntKind.i64 0)]), (7, T.junk), (8, T.junk), (9, T.box [C.d (D.int IntKind.i64 c.st), C.d (D.int IntKind.i64 c.br), C.d (D.int IntKind.i64 c.who), C.d (D.int IntKind.i64 c.to)]), (10, T.val (D.int IntKind.i64 ↑k)), (11, T.junk), (12, T.junk), (18, T.junk), (25, T.val (D.bool true)), (34, T.val (D.bool (x.item != item))), (37, T.val ((D.agg [D.int IntKind.i64 zm.day, D.int IntKind.i64 zm.item, D.int IntKind.i64 zm.kind, D.int IntKind.i64 zm.br, D.int IntKind.i64 zm.who]).slice (List.map encMove l))), (45, T.junk)] ?_ fun h_1 => ?_
          · skip
            refine coreB.step [0, 2, 9] (by kernel_rfl) (by simp) ?_
            refine allB.cons rfl ?_ ?_
            · skip
              simp [encMoves_eq, encCus_eq, encMove_eq, h18, h25, hx, hxx]
              repeat refine ⟨by first | omega | assumption | (simp only [maxLen]; omega) | (intros; omega) | decide, ?_⟩
              exact contB.mk (by simp [Weak, TW, encMoves_eq, encCus_eq, encMove_eq]) h_0_1 (by kernel_rfl)
            refine allB.cons rfl ?_ ?_
            · skip
              simp [encMoves_eq, encCus_eq, encMove_eq, h18, h25, hx, hxx]
              repeat refine ⟨by first | omega | assumption | (simp only [maxLen]; omega) | (intros; omega) | decide, ?_⟩
              exact contB.mk (by simp [Weak, TW, encMoves_eq, encCus_eq, encMove_eq]) h_1_2 (by kernel_rfl)
            refine allB.cons rfl ?_ ?_
            · skip
              simp [encMoves_eq, encCus_eq, encMove_eq, h18, h25, hx, hxx]
              repeat refine ⟨by first | omega | assumption | (simp only [maxLen]; omega) | (intros; omega) | decide, ?_⟩
              exact contB.mk (by simp [Weak, TW, encMoves_eq, encCus_eq, encMove_eq]) h_1_9 (by kernel_rfl)
            exact allB.nil
          refine coreB.cut 11 #[false, false, true, false, false, false, false, false, false, false, false, false] [(0, T.val (D.int IntKind.i64 b)), (1, T.val ((D.agg [D.int IntKind.i64 zm.day, D.int IntKind.i64 zm.item, D.int IntKind.i64 zm.kind, D.int IntKind.i64 zm.br, D.int IntKind.i64 zm.who]).slice (List.map encMove l))), (2, T.val (D.int IntKind.i64 item)), (6, T.box [C.d (D.int IntKind.i64 0), C.d (D.int IntKind.i64 0), C.d (D.int IntKind.i64 0), C.d (D.int IntKind.i64 0)]), (7, T.junk), (8, T.junk), (9, T.box [C.d (D.int IntKind.i64 c.st), C.d (D.int IntKind.i64 c.br), C.d (D.int IntKind.i64 c.who), C.d (D.int IntKind.i64 c.to)]), (10, T.val (D.int IntKind.i64 ↑k)), (11, T.junk), (12, T.junk), (18, T.junk), (25, T.val (D.bool true)), (34, T.val (D.bool (x.item != item))), (38, T.val (D.int IntKind.i64 ↑k)), (45, T.junk)] ?_ fun h_2 => ?_
          · skip
            refine coreB.step [0, 1, 9] (by kernel_rfl) (by simp) ?_
            refine allB.cons rfl ?_ ?_
            · skip
              simp [encMoves_eq, encCus_eq, encMove_eq, h18, h25, hx, hxx]
              repeat refine ⟨by first | omega | assumption | (simp only [maxLen]; omega) | (intros; omega) | decide, ?_⟩
              exact contB.mk (by simp [Weak, TW, encMoves_eq, encCus_eq, encMove_eq]) h_0_2 (by kernel_rfl)
            refine allB.cons rfl ?_ ?_
            · skip
              simp [encMoves_eq, encCus_eq, encMove_eq, h18, h25, hx, hxx]
              repeat refine ⟨by first | omega | assumption | (simp only [maxLen]; omega) | (intros; omega) | decide, ?_⟩
              exact contB.mk (by simp [Weak, TW, encMoves_eq, encCus_eq, encMove_eq]) h_1_2 (by kernel_rfl)
            refine allB.cons rfl ?_ ?_
            · skip
              simp [encMoves_eq, encCus_eq, encMove_eq, h18, h25, hx, hxx]
              repeat refine ⟨by first | omega | assumption | (simp only [maxLen]; omega) | (intros; omega) | decide, ?_⟩
              exact contB.mk (by simp [Weak, TW, encMoves_eq, encCus_eq, encMove_eq]) h_2_9 (by kernel_rfl)
            exact allB.nil
          refine coreB.cut 11 #[false, false, false, false, false, false, false, false, false, true, false, false] [(0, T.val (D.int IntKind.i64 b)), (1, T.val ((D.agg [D.int IntKind.i64 zm.day, D.int IntKind.i64 zm.item, D.int IntKind.i64 zm.kind, D.int IntKind.i64 zm.br, D.int IntKind.i64 zm.who]).slice (List.map encMove l))), (2, T.val (D.int IntKind.i64 item)), (6, T.box [C.d (D.int IntKind.i64 0), C.d (D.int IntKind.i64 0), C.d (D.int IntKind.i64 0), C.d (D.int IntKind.i64 0)]), (7, T.junk), (8, T.junk), (9, T.box [C.d (D.int IntKind.i64 c.st), C.d (D.int IntKind.i64 c.br), C.d (D.int IntKind.i64 c.who), C.d (D.int IntKind.i64 c.to)]), (10, T.val (D.int IntKind.i64 ↑k)), (11, T.box [C.d (D.int IntKind.i64 0), C.d (D.int IntKind.i64 0), C.d (D.int IntKind.i64 0), C.d (D.int IntKind.i64 0)]), (12, T.junk), (18, T.junk), (25, T.val (D.bool true)), (34, T.val (D.bool (x.item != item))), (45, T.junk)] ?_ fun h_9 => ?_
          · skip
            refine coreB.step [0, 1, 2] (by kernel_rfl) (by simp) ?_
            refine allB.cons rfl ?_ ?_
            · skip
              simp [encMoves_eq, encCus_eq, encMove_eq, h18, h25, hx, hxx]
              repeat refine ⟨by first | omega | assumption | (simp only [maxLen]; omega) | (intros; omega) | decide, ?_⟩
              exact contB.mk (by simp [Weak, TW, encMoves_eq, encCus_eq, encMove_eq]) h_0_9 (by kernel_rfl)
            refine allB.cons rfl ?_ ?_
            · skip
              simp [encMoves_eq, encCus_eq, encMove_eq, h18, h25, hx, hxx]
              repeat refine ⟨by first | omega | assumption | (simp only [maxLen]; omega) | (intros; omega) | decide, ?_⟩
              exact contB.mk (by simp [Weak, TW, encMoves_eq, encCus_eq, encMove_eq]) h_1_9 (by kernel_rfl)
            refine allB.cons rfl ?_ ?_
            · skip
              simp [encMoves_eq, encCus_eq, encMove_eq, h18, h25, hx, hxx]
              repeat refine ⟨by first | omega | assumption | (simp only [maxLen]; omega) | (intros; omega) | decide, ?_⟩
              exact contB.mk (by simp [Weak, TW, encMoves_eq, encCus_eq, encMove_eq]) h_2_9 (by kernel_rfl)
            exact allB.nil
          refine coreB.cut 12 #[false, false, false, false, false, false, false, false, false, false, false, false] [(0, T.val (D.int IntKind.i64 b)), (1, T.val ((D.agg [D.int IntKind.i64 zm.day, D.int IntKind.i64 zm.item, D.int IntKind.i64 zm.kind, D.int IntKind.i64 zm.br, D.int IntKind.i64 zm.who]).slice (List.map encMove l))), (2, T.val (D.int IntKind.i64 item)), (6, T.box [C.d (D.int IntKind.i64 0), C.d (D.int IntKind.i64 0), C.d (D.int IntKind.i64 0), C.d (D.int IntKind.i64 0)]), (7, T.junk), (8, T.junk), (9, T.box [C.d (D.int IntKind.i64 c.st), C.d (D.int IntKind.i64 c.br), C.d (D.int IntKind.i64 c.who), C.d (D.int IntKind.i64 c.to)]), (10, T.val (D.int IntKind.i64 ↑k)), (11, T.junk), (12, T.junk), (18, T.junk), (25, T.val (D.bool true)), (34, T.val (D.bool (x.item != item))), (45, T.junk)] ?_ fun h_ => ?_
          · skip
            refine coreB.step [0, 1, 2, 9] (by kernel_rfl) (by simp) ?_
            refine allB.cons rfl ?_ ?_
            · skip
              simp [encMoves_eq, encCus_eq, encMove_eq, h18, h25, hx, hxx]
              repeat refine ⟨by first | omega | assumption | (simp only [maxLen]; omega) | (intros; omega) | decide, ?_⟩
              exact contB.mk (by simp [Weak, TW, encMoves_eq, encCus_eq, encMove_eq]) h_0 (by kernel_rfl)
            refine allB.cons rfl ?_ ?_
            · skip
              simp [encMoves_eq, encCus_eq, encMove_eq, h18, h25, hx, hxx]
              repeat refine ⟨by first | omega | assumption | (simp only [maxLen]; omega) | (intros; omega) | decide, ?_⟩
              exact contB.mk (by simp [Weak, TW, encMoves_eq, encCus_eq, encMove_eq]) h_1 (by kernel_rfl)
            refine allB.cons rfl ?_ ?_
            · skip
              simp [encMoves_eq, encCus_eq, encMove_eq, h18, h25, hx, hxx]
              repeat refine ⟨by first | omega | assumption | (simp only [maxLen]; omega) | (intros; omega) | decide, ?_⟩
              exact contB.mk (by simp [Weak, TW, encMoves_eq, encCus_eq, encMove_eq]) h_2 (by kernel_rfl)
            refine allB.cons rfl ?_ ?_
            · skip
              simp [encMoves_eq, encCus_eq, encMove_eq, h18, h25, hx, hxx]
              repeat refine ⟨by first | omega | assumption | (simp only [maxLen]; omega) | (intros; omega) | decide, ?_⟩
              exact contB.mk (by simp [Weak, TW, encMoves_eq, encCus_eq, encMove_eq]) h_9 (by kernel_rfl)
            exact allB.nil
          exact h_
        refine hK _ ?_
        clear hK K
        refine AWp.seq ?_
        -- region 9
        refine AWp.rseq E_ok [0, 1, 2, 6, 7, 8, 9, 10, 11, 12, 18, 25, 34, 45] fun K hK => ?_
        simp [encMoves_eq, encCus_eq, encMove_eq, h18, h25, hx, hxx]
        repeat refine ⟨by first | omega | assumption | (simp only [maxLen]; omega) | (intros; omega) | decide, ?_⟩
        refine hK _ ?_
        clear hK K
        refine AWp.cond rfl (fun h45 => ?_) (fun h45 => ?_)
        · try simp at h45
          rw [if_pos h45] at hs
          -- region 10
          refine AWp.rseq E_ok [0, 1, 2, 6, 7, 8, 9, 10, 11, 12, 18, 25, 34, 45] fun K hK => ?_
          simp [encMoves_eq, encCus_eq, encMove_eq, h18, h25, hx, hxx]
          repeat refine ⟨by first | omega | assumption | (simp only [maxLen]; omega) | (intros; omega) | decide, ?_⟩
          refine hK _ ?_
          clear hK K
          refine AWp.ret ?_
          repeat first | refine thenN ?_ | refine thenX ?_ | refine thenR ?_ | refine blockN ?_ | refine blockR ?_ | refine blockX ?_ | refine blockM rfl ?_
          first | (rw [rep_bad h18]; simp [RetOk, RV, RVs, encCus_eq, c00]; done) | (rw [rep_ok h18]; simp [RetOk, RV, RVs, encCus_eq, c00, ← hs])
        · try simp at h45
          rw [if_neg (by simp [h45])] at hs
          refine AWp.skip ?_
          repeat first | refine thenN ?_ | refine thenX ?_ | refine thenR ?_ | refine blockN ?_ | refine blockR ?_ | refine blockX ?_ | refine blockM rfl ?_
          -- region 11
          refine AWp.rend E_ok [0, 1, 2, 6, 7, 8, 9, 10, 11, 12, 18, 25, 34, 45] fun K hK => ?_
          simp [encMoves_eq, encCus_eq, encMove_eq, h18, h25, hx, hxx]
          repeat refine ⟨by first | omega | assumption | (simp only [maxLen]; omega) | (intros; omega) | decide, ?_⟩
          refine hK _ ?_
          clear hK K
          repeat first | refine thenN ?_ | refine thenX ?_ | refine thenR ?_ | refine blockN ?_ | refine blockR ?_ | refine blockX ?_ | refine blockM rfl ?_
          -- region 6
          refine AWp.rend E_ok [0, 1, 2, 6, 7, 8, 9, 10, 11, 12, 18, 25, 34, 45] fun K hK => ?_
          simp [encMoves_eq, encCus_eq, encMove_eq, h18, h25, hx, hxx]
          repeat refine ⟨by first | omega | assumption | (simp only [maxLen]; omega) | (intros; omega) | decide, ?_⟩
          refine hK _ ?_
          clear hK K
          repeat first | refine thenN ?_ | refine thenX ?_ | refine thenR ?_ | refine blockN ?_ | refine blockR ?_ | refine blockX ?_ | refine blockM rfl ?_
          have hw : IntKind.i64.wrap ((k : Int) + 1) = (k : Int) + 1 := by rw [wrap_i64] <;> omega
          skip
          refine ⟨_, h25, hs, ?_, ?_⟩
          · rfl
          · simp [Weak, TW, hw, encMoves_eq, encCus_eq, encMove_eq]
    · try simp at h25
      obtain rfl : k = l.length := by omega
      simp [repF] at hs
      refine AWp.exit ?_
      repeat first | refine thenN ?_ | refine thenX ?_ | refine thenR ?_ | refine blockN ?_ | refine blockR ?_ | refine blockX ?_ | refine blockM rfl ?_
      -- region 12
      refine AWp.rseq E_ok [0, 1, 2, 6, 7, 8, 9, 10, 11, 12, 18, 25, 34, 45] fun K hK => ?_
      simp [encMoves_eq, encCus_eq, encMove_eq, h18, h25]
      repeat refine ⟨by first | omega | assumption | (simp only [maxLen]; omega) | (intros; omega) | decide, ?_⟩
      refine hK _ ?_
      clear hK K
      refine AWp.ret ?_
      repeat first | refine thenN ?_ | refine thenX ?_ | refine thenR ?_ | refine blockN ?_ | refine blockR ?_ | refine blockX ?_ | refine blockM rfl ?_
      first | (rw [rep_bad h18]; simp [RetOk, RV, RVs, encCus_eq, c00]; done) | (rw [rep_ok h18]; simp [RetOk, RV, RVs, encCus_eq, c00, ← hs])
end Go.Proofs.YtabmhpgbfjkkcaaDoor

set_option maxRecDepth 100000
set_option linter.unusedSimpArgs false
set_option linter.unusedVariables false
namespace Go.Proofs.YtabmhpgbfjkkcaaDoor
open Go Ab Pl
theorem law30_CustodyReplays (b : Int) (l : List Mv) (item : Int) : ACalls E.P 5 [.int .i64 b, encMoves l, .int .i64 item] (.d (.bool true)) := by
  refine ACalls.intro E_ok Tryd.func5 rfl rfl Tryd.ntmps5 Tryd.results5 (Nat.le_of_ble_eq_true rfl) fun hok base S0 w0 => ?_
  -- region 0
  refine AWp.rseq E_ok [0, 1, 2, 6, 7, 8, 9, 10, 11, 12, 15] fun K hK => ?_
  simp [encMoves_eq, encCus_eq, encMove_eq]
  repeat refine ⟨by first | omega | assumption | (simp only [maxLen]; omega) | (intros; omega) | decide, ?_⟩
  refine hK _ ?_
  clear hK K
  refine AWp.seq ?_
  -- region 1
  refine AWp.rseq E_ok [0, 1, 2, 6, 7, 8, 9, 10, 11, 12, 15] fun K hK => ?_
  simp [encMoves_eq, encCus_eq, encMove_eq]
  repeat refine ⟨by first | omega | assumption | (simp only [maxLen]; omega) | (intros; omega) | decide, ?_⟩
  refine hK _ ?_
  clear hK K
  refine AWp.cond rfl (fun h15 => ?_) (fun h15 => ?_)
  · try simp at h15
    -- region 2
    refine AWp.rseq E_ok [0, 1, 2, 6, 7, 8, 9, 10, 11, 12, 15] fun K hK => ?_
    simp [encMoves_eq, encCus_eq, encMove_eq, h15]
    repeat refine ⟨by first | omega | assumption | (simp only [maxLen]; omega) | (intros; omega) | decide, ?_⟩
    refine meet.of (law30_alive) ?_
    simp [encMoves_eq, encCus_eq, encMove_eq, h15]
    repeat refine ⟨by first | omega | assumption | (simp only [maxLen]; omega) | (intros; omega) | decide, ?_⟩
    refine hK _ ?_
    clear hK K
    refine AWp.ret ?_
    repeat first | refine thenN ?_ | refine thenX ?_ | refine thenR ?_ | refine blockN ?_ | refine blockR ?_ | refine blockX ?_ | refine blockM rfl ?_
    simp [RetOk, RV]
  · try simp at h15
    refine AWp.skip ?_
    repeat first | refine thenN ?_ | refine thenX ?_ | refine thenR ?_ | refine blockN ?_ | refine blockR ?_ | refine blockX ?_ | refine blockM rfl ?_
    -- region 3
    refine AWp.rseq E_ok [0, 1, 2, 6, 7, 8, 9, 10, 11, 12, 15] fun K hK => ?_
    simp [encMoves_eq, encCus_eq, encMove_eq, h15]
    repeat refine ⟨by first | omega | assumption | (simp only [maxLen]; omega) | (intros; omega) | decide, ?_⟩
    refine meet.of (custody_Replay b l item (by omega)) ?_
    simp [encMoves_eq, encCus_eq, encMove_eq, h15]
    repeat refine ⟨by first | omega | assumption | (simp only [maxLen]; omega) | (intros; omega) | decide, ?_⟩
    refine hK _ ?_
    clear hK K
    -- region 4
    refine AWp.rseq E_ok [0, 1, 2, 6, 7, 8, 9, 10, 11, 12, 15] fun K hK => ?_
    simp [encMoves_eq, encCus_eq, encMove_eq, h15]
    repeat refine ⟨by first | omega | assumption | (simp only [maxLen]; omega) | (intros; omega) | decide, ?_⟩
    refine meet.of (ref30_Replay b l item (by omega)) ?_
    simp [encMoves_eq, encCus_eq, encMove_eq, h15]
    repeat refine ⟨by first | omega | assumption | (simp only [maxLen]; omega) | (intros; omega) | decide, ?_⟩
    refine hK _ ?_
    clear hK K
    -- region 5
    refine AWp.rseq E_ok [0, 1, 2, 6, 7, 8, 9, 10, 11, 12, 15] fun K hK => ?_
    simp [encMoves_eq, encCus_eq, encMove_eq, h15]
    repeat refine ⟨by first | omega | assumption | (simp only [maxLen]; omega) | (intros; omega) | decide, ?_⟩
    refine meet.of (law30_alive) ?_
    simp [encMoves_eq, encCus_eq, encMove_eq, h15]
    repeat refine ⟨by first | omega | assumption | (simp only [maxLen]; omega) | (intros; omega) | decide, ?_⟩
    refine hK _ ?_
    clear hK K
    refine AWp.ret ?_
    repeat first | refine thenN ?_ | refine thenX ?_ | refine thenR ?_ | refine blockN ?_ | refine blockR ?_ | refine blockX ?_ | refine blockM rfl ?_
    simp [RetOk, RV]
end Go.Proofs.YtabmhpgbfjkkcaaDoor
