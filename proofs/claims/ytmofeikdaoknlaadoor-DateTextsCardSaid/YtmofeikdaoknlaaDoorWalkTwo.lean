/-
  What the functions compute that the statement reaches: contracts, and the plain laws between them. Conditions stand at each theorem.
-/
import Derived.Test.YtmofeikdaoknlaaDoorWalkOne
set_option linter.unusedVariables false
set_option linter.unusedSimpArgs false
set_option maxRecDepth 100000
set_option linter.unusedSimpArgs false
set_option linter.unusedVariables false
namespace Go.Proofs.YtmofeikdaoknlaaDoor
open Go Ab Pl
theorem date_newYear (y : Int) (hy : 1900 ≤ y ∧ y ≤ 2200) : ACalls E.P 25 [.int .i64 y] (.d (.int .i64 (nyD y))) := by
  refine ACalls.intro E_ok Tryd.func25 rfl rfl Tryd.ntmps25 Tryd.results25 (Nat.le_of_ble_eq_true rfl) fun hok base S0 w0 => ?_
  have e1 : IntKind.i64.wrap (y - 1900) = y - 1900 := by rw [wrap_i64] <;> omega
  have e2 : IntKind.i64.wrap ((y - 1900) * 365) = (y - 1900) * 365 := by rw [wrap_i64] <;> omega
  have hr := ny_rng hy.1 hy.2
  -- region 0
  refine AWp.rseq E_ok [0, 2, 3, 4, 5, 12, 16] fun K hK => ?_
  simp [ny_first, e1, e2]
  repeat refine ⟨by first | omega | assumption | (simp only [maxLen]; omega) | (intros; omega) | decide, ?_⟩
  refine hK _ ?_
  clear hK K
  -- region 1
  refine AWp.rseq E_ok [0, 2, 3, 4, 5, 12, 16] fun K hK => ?_
  simp [ny_first, e1, e2]
  repeat refine ⟨by first | omega | assumption | (simp only [maxLen]; omega) | (intros; omega) | decide, ?_⟩
  refine hK _ ?_
  clear hK K
  -- region 2
  refine AWp.rseq E_ok [0, 2, 3, 4, 5, 12, 16] fun K hK => ?_
  simp [ny_first, e1, e2]
  repeat refine ⟨by first | omega | assumption | (simp only [maxLen]; omega) | (intros; omega) | decide, ?_⟩
  refine hK _ ?_
  clear hK K
  refine AWp.seq ?_
  -- region 3
  refine AWp.rseq E_ok [0, 2, 3, 4, 5, 12, 16] fun K hK => ?_
  simp [ny_first, e1, e2]
  repeat refine ⟨by first | omega | assumption | (simp only [maxLen]; omega) | (intros; omega) | decide, ?_⟩
  refine hK _ ?_
  clear hK K
  refine AWp.block ?_
  refine AWp.loop (ι := { k : Int // 1900 ≤ k ∧ k ≤ y }) (fun x => match x with | ⟨k, hk, hk2⟩ => [(0, T.val (D.int IntKind.i64 y)), (4, T.val (.int .i64 ((y - 1900) * 365 + (nyD k - 365 * (k - 1900))))), (5, T.val (.int .i64 k))]) (fun x => match x with | ⟨k, hk, hk2⟩ => (y - k).toNat) ⟨1900, Int.le_refl _, hy.1⟩ ?_ ?_
  · simp [Weak, TW, ny_first]
  rintro ⟨k, hk, hk2⟩
  simp only
  try simp only at hk
  try simp only at hk2
  refine AWp.seq ?_
  -- region 4
  refine AWp.rseq E_ok [0, 2, 3, 4, 5, 12, 16] fun K hK => ?_
  simp [ny_first, e1, e2]
  repeat refine ⟨by first | omega | assumption | (simp only [maxLen]; omega) | (intros; omega) | decide, ?_⟩
  refine hK _ ?_
  clear hK K
  refine AWp.cond rfl (fun h12 => ?_) (fun h12 => ?_)
  · try simp at h12
    refine AWp.skip ?_
    repeat first | refine thenN ?_ | refine thenX ?_ | refine thenR ?_ | refine blockN ?_ | refine blockR ?_ | refine blockX ?_ | refine blockM rfl ?_
    refine AWp.seq ?_
    refine AWp.block ?_
    -- region 6
    refine AWp.rseq E_ok [0, 2, 3, 4, 5, 12, 16] fun K hK => ?_
    simp [ny_first, e1, e2]
    repeat refine ⟨by first | omega | assumption | (simp only [maxLen]; omega) | (intros; omega) | decide, ?_⟩
    refine meet.of (date_leap k (by omega)) ?_
    simp [ny_first, e1, e2]
    repeat refine ⟨by first | omega | assumption | (simp only [maxLen]; omega) | (intros; omega) | decide, ?_⟩
    refine hK _ ?_
    clear hK K
    refine AWp.cond rfl (fun h16 => ?_) (fun h16 => ?_)
    · try simp at h16
      -- region 7
      refine AWp.rend E_ok [0, 2, 3, 4, 5, 12, 16] fun K hK => ?_
      simp [ny_first, e1, e2]
      repeat refine ⟨by first | omega | assumption | (simp only [maxLen]; omega) | (intros; omega) | decide, ?_⟩
      refine hK _ ?_
      clear hK K
      repeat first | refine thenN ?_ | refine thenX ?_ | refine thenR ?_ | refine blockN ?_ | refine blockR ?_ | refine blockX ?_ | refine blockM rfl ?_
      -- region 5
      refine AWp.rend E_ok [0, 2, 3, 4, 5, 12, 16] fun K hK => ?_
      simp [ny_first, e1, e2]
      repeat refine ⟨by first | omega | assumption | (simp only [maxLen]; omega) | (intros; omega) | decide, ?_⟩
      refine hK _ ?_
      clear hK K
      repeat first | refine thenN ?_ | refine thenX ?_ | refine thenR ?_ | refine blockN ?_ | refine blockR ?_ | refine blockX ?_ | refine blockM rfl ?_
      have hw : IntKind.i64.wrap (k + 1) = k + 1 := by rw [wrap_i64] <;> omega
      have st := ny_step hk (by omega)
      have hr2 := ny_rng hk (by omega)
      refine ⟨⟨k + 1, by omega, by omega⟩, ?_, by simp only; omega⟩
      first | (have hw2 : IntKind.i64.wrap ((y - 1900) * 365 + (nyD k - 365 * (k - 1900)) + 1) = (y - 1900) * 365 + (nyD k - 365 * (k - 1900)) + 1 := by rw [wrap_i64] <;> omega) | skip
      simp [Weak, TW, hw, hw2]
      simp [yearD, h16] at st
      omega
    · try simp at h16
      refine AWp.skip ?_
      repeat first | refine thenN ?_ | refine thenX ?_ | refine thenR ?_ | refine blockN ?_ | refine blockR ?_ | refine blockX ?_ | refine blockM rfl ?_
      -- region 5
      refine AWp.rend E_ok [0, 2, 3, 4, 5, 12, 16] fun K hK => ?_
      simp [ny_first, e1, e2]
      repeat refine ⟨by first | omega | assumption | (simp only [maxLen]; omega) | (intros; omega) | decide, ?_⟩
      refine hK _ ?_
      clear hK K
      repeat first | refine thenN ?_ | refine thenX ?_ | refine thenR ?_ | refine blockN ?_ | refine blockR ?_ | refine blockX ?_ | refine blockM rfl ?_
      have hw : IntKind.i64.wrap (k + 1) = k + 1 := by rw [wrap_i64] <;> omega
      have st := ny_step hk (by omega)
      have hr2 := ny_rng hk (by omega)
      refine ⟨⟨k + 1, by omega, by omega⟩, ?_, by simp only; omega⟩
      first | (have hw2 : IntKind.i64.wrap ((y - 1900) * 365 + (nyD k - 365 * (k - 1900)) + 1) = (y - 1900) * 365 + (nyD k - 365 * (k - 1900)) + 1 := by rw [wrap_i64] <;> omega) | skip
      simp [Weak, TW, hw, hw2]
      simp [yearD, h16] at st
      omega
  · try simp at h12
    refine AWp.exit ?_
    repeat first | refine thenN ?_ | refine thenX ?_ | refine thenR ?_ | refine blockN ?_ | refine blockR ?_ | refine blockX ?_ | refine blockM rfl ?_
    -- region 8
    refine AWp.rseq E_ok [0, 2, 3, 4, 5, 12, 16] fun K hK => ?_
    simp [ny_first, e1, e2]
    repeat refine ⟨by first | omega | assumption | (simp only [maxLen]; omega) | (intros; omega) | decide, ?_⟩
    refine hK _ ?_
    clear hK K
    refine AWp.ret ?_
    repeat first | refine thenN ?_ | refine thenX ?_ | refine thenR ?_ | refine blockN ?_ | refine blockR ?_ | refine blockX ?_ | refine blockM rfl ?_
    obtain rfl : k = y := (by omega); simp [RetOk, RV, RVs]; omega
end Go.Proofs.YtmofeikdaoknlaaDoor

set_option maxRecDepth 100000
set_option linter.unusedSimpArgs false
set_option linter.unusedVariables false
namespace Go.Proofs.YtmofeikdaoknlaaDoor
open Go Ab Pl
theorem date_before (y m : Int) (hy : 1900 ≤ y ∧ y ≤ 2199) (hm : 1 ≤ m ∧ m ≤ 12) : ACalls E.P 26 [.int .i64 y, .int .i64 m] (.d (.int .i64 (befD y m))) := by
  refine ACalls.intro E_ok Tryd.func26 rfl rfl Tryd.ntmps26 Tryd.results26 (Nat.le_of_ble_eq_true rfl) fun hok base S0 w0 => ?_
  have e1 : IntKind.i64.wrap (m - 1) = m - 1 := by rw [wrap_i64] <;> omega
  have tg := bef_arr (m := m) (by omega)
  have br := befT_rng m
  have e2 : IntKind.i64.wrap (befT m + 1) = befT m + 1 := by rw [wrap_i64] <;> omega
  -- region 0
  refine AWp.rseq E_ok [0, 1, 4, 5, 15] fun K hK => ?_
  simp [e1, tg, e2]
  repeat refine ⟨by first | omega | assumption | (simp only [maxLen]; omega) | (intros; omega) | decide, ?_⟩
  refine hK _ ?_
  clear hK K
  -- region 1
  refine AWp.rseq E_ok [0, 1, 4, 5, 15] fun K hK => ?_
  simp [e1, tg, e2]
  repeat refine ⟨by first | omega | assumption | (simp only [maxLen]; omega) | (intros; omega) | decide, ?_⟩
  refine hK _ ?_
  clear hK K
  refine AWp.seq ?_
  -- region 2
  refine AWp.rseq E_ok [0, 1, 4, 5, 15] fun K hK => ?_
  simp [e1, tg, e2]
  repeat refine ⟨by first | omega | assumption | (simp only [maxLen]; omega) | (intros; omega) | decide, ?_⟩
  refine meet.of (date_leap y (by omega)) ?_
  simp [e1, tg, e2]
  repeat refine ⟨by first | omega | assumption | (simp only [maxLen]; omega) | (intros; omega) | decide, ?_⟩
  refine hK _ ?_
  clear hK K
  refine AWp.cond rfl (fun h15 => ?_) (fun h15 => ?_)
  · try simp at h15
    have hb : befD y m = befT m + 1 := by unfold befD; rw [if_pos h15]
    -- region 3
    refine AWp.rend E_ok [0, 1, 4, 5, 15] fun K hK => ?_
    simp [e1, tg, e2]
    repeat refine ⟨by first | omega | assumption | (simp only [maxLen]; omega) | (intros; omega) | decide, ?_⟩
    refine hK _ ?_
    clear hK K
    repeat first | refine thenN ?_ | refine thenX ?_ | refine thenR ?_ | refine blockN ?_ | refine blockR ?_ | refine blockX ?_ | refine blockM rfl ?_
    -- region 4
    refine AWp.rseq E_ok [0, 1, 4, 5, 15] fun K hK => ?_
    simp [e1, tg, e2]
    repeat refine ⟨by first | omega | assumption | (simp only [maxLen]; omega) | (intros; omega) | decide, ?_⟩
    refine hK _ ?_
    clear hK K
    refine AWp.ret ?_
    repeat first | refine thenN ?_ | refine thenX ?_ | refine thenR ?_ | refine blockN ?_ | refine blockR ?_ | refine blockX ?_ | refine blockM rfl ?_
    simp [RetOk, RV, RVs, hb]
  · try simp at h15
    have hb : befD y m = befT m := by unfold befD; rw [if_neg (by simpa using h15)]; omega
    refine AWp.skip ?_
    repeat first | refine thenN ?_ | refine thenX ?_ | refine thenR ?_ | refine blockN ?_ | refine blockR ?_ | refine blockX ?_ | refine blockM rfl ?_
    -- region 4
    refine AWp.rseq E_ok [0, 1, 4, 5, 15] fun K hK => ?_
    simp [e1, tg, e2]
    repeat refine ⟨by first | omega | assumption | (simp only [maxLen]; omega) | (intros; omega) | decide, ?_⟩
    refine hK _ ?_
    clear hK K
    refine AWp.ret ?_
    repeat first | refine thenN ?_ | refine thenX ?_ | refine thenR ?_ | refine blockN ?_ | refine blockR ?_ | refine blockX ?_ | refine blockM rfl ?_
    simp [RetOk, RV, RVs, hb]
end Go.Proofs.YtmofeikdaoknlaaDoor

set_option maxRecDepth 100000
set_option linter.unusedSimpArgs false
set_option linter.unusedVariables false
namespace Go.Proofs.YtmofeikdaoknlaaDoor
open Go Ab Pl
theorem date_Of (y m d : Int) : ACalls E.P 10 [.int .i64 y, .int .i64 m, .int .i64 d] (.tup [.int .i64 (ofR y m d).1, .int .i64 (ofR y m d).2]) := by
  refine ACalls.intro E_ok Tryd.func10 rfl rfl Tryd.ntmps10 Tryd.results10 (Nat.le_of_ble_eq_true rfl) fun hok base S0 w0 => ?_
  -- region 0
  refine AWp.rseq E_ok [0, 1, 2, 6, 7, 16] fun K hK => ?_
  simp
  repeat refine ⟨by first | omega | assumption | (simp only [maxLen]; omega) | (intros; omega) | decide, ?_⟩
  refine hK _ ?_
  clear hK K
  refine AWp.seq ?_
  -- region 1
  refine AWp.rseq E_ok [0, 1, 2, 6, 7, 16] fun K hK => ?_
  simp
  repeat refine ⟨by first | omega | assumption | (simp only [maxLen]; omega) | (intros; omega) | decide, ?_⟩
  refine meet.of (date_Length y m) ?_
  simp
  repeat refine ⟨by first | omega | assumption | (simp only [maxLen]; omega) | (intros; omega) | decide, ?_⟩
  refine hK _ ?_
  clear hK K
  refine AWp.cond rfl (fun h16 => ?_) (fun h16 => ?_)
  · try simp at h16
    have hb := of_bad h16
    -- region 2
    refine AWp.rseq E_ok [0, 1, 2, 6, 7, 16] fun K hK => ?_
    simp
    repeat refine ⟨by first | omega | assumption | (simp only [maxLen]; omega) | (intros; omega) | decide, ?_⟩
    refine hK _ ?_
    clear hK K
    refine AWp.ret ?_
    repeat first | refine thenN ?_ | refine thenX ?_ | refine thenR ?_ | refine blockN ?_ | refine blockR ?_ | refine blockX ?_ | refine blockM rfl ?_
    first | (simp [RetOk, RV, RVs, hb]; done) | (rw [of_ok (by omega) (by omega)]; simp [RetOk, RV, RVs, dayD])
  · try simp at h16
    have hin := mlen_in (y := y) (m := m) (d := d) (by omega) (by omega)
    have ml := mlen_rng hin.1.1 hin.1.2 hin.2.1 hin.2.2
    have nr := ny_rng hin.1.1 (by omega)
    have b1 := bef_mono (y := y) (m := 1) (n := m) (by omega) (by omega) hin.2.1
    have b2 := bef_mono (y := y) (m := m) (n := 13) (by omega) hin.2.1 (by omega)
    rw [bef_first] at b1
    rw [bef_end hin.1.1 hin.1.2] at b2
    have yp := year_pos y
    have e1 : IntKind.i64.wrap (nyD y + befD y m) = nyD y + befD y m := by rw [wrap_i64] <;> omega
    have e2 : IntKind.i64.wrap (nyD y + befD y m + d) = nyD y + befD y m + d := by rw [wrap_i64] <;> omega
    have e3 : IntKind.i64.wrap (nyD y + befD y m + d - 1) = nyD y + befD y m + d - 1 := by rw [wrap_i64] <;> omega
    refine AWp.skip ?_
    repeat first | refine thenN ?_ | refine thenX ?_ | refine thenR ?_ | refine blockN ?_ | refine blockR ?_ | refine blockX ?_ | refine blockM rfl ?_
    -- region 3
    refine AWp.rseq E_ok [0, 1, 2, 6, 7, 16] fun K hK => ?_
    simp [e1, e2, e3]
    repeat refine ⟨by first | omega | assumption | (simp only [maxLen]; omega) | (intros; omega) | decide, ?_⟩
    refine meet.of (date_newYear y (by omega)) ?_
    simp [e1, e2, e3]
    repeat refine ⟨by first | omega | assumption | (simp only [maxLen]; omega) | (intros; omega) | decide, ?_⟩
    refine meet.of (date_before y m (by omega) (by omega)) ?_
    simp [e1, e2, e3]
    repeat refine ⟨by first | omega | assumption | (simp only [maxLen]; omega) | (intros; omega) | decide, ?_⟩
    refine hK _ ?_
    clear hK K
    refine AWp.ret ?_
    repeat first | refine thenN ?_ | refine thenX ?_ | refine thenR ?_ | refine blockN ?_ | refine blockR ?_ | refine blockX ?_ | refine blockM rfl ?_
    first | (simp [RetOk, RV, RVs, hb]; done) | (rw [of_ok (by omega) (by omega)]; simp [RetOk, RV, RVs, dayD])
end Go.Proofs.YtmofeikdaoknlaaDoor

set_option maxRecDepth 100000
set_option linter.unusedSimpArgs false
set_option linter.unusedVariables false
namespace Go.Proofs.YtmofeikdaoknlaaDoor
open Go Ab Pl
theorem date_Parse (s : List UInt8) : ACalls E.P 21 [.str s] (.tup [.int .i64 (parseR s).1, .int .i64 (parseR s).2]) := by
  refine ACalls.intro E_ok Tryd.func21 rfl rfl Tryd.ntmps21 Tryd.results21 (Nat.le_of_ble_eq_true rfl) fun hok base S0 w0 => ?_
  -- region 0
  refine AWp.rseq E_ok [0, 2, 3, 4, 5, 6, 7, 8, 9, 22, 50] fun K hK => ?_
  simp
  repeat refine ⟨by first | omega | assumption | (simp only [maxLen]; omega) | (intros; omega) | decide, ?_⟩
  refine hK _ ?_
  clear hK K
  refine AWp.seq ?_
  -- region 1
  refine AWp.rseq E_ok [0, 2, 3, 4, 5, 6, 7, 8, 9, 22, 50] fun K hK => ?_
  simp
  repeat refine ⟨by first | omega | assumption | (simp only [maxLen]; omega) | (intros; omega) | decide, ?_⟩
  refine hK _ ?_
  clear hK K
  refine AWp.cond rfl (fun h22 => ?_) (fun h22 => ?_)
  · try simp at h22
    have hb := parse_nodash (s := s) (by omega)
    -- region 2
    refine AWp.rseq E_ok [0, 2, 3, 4, 5, 6, 7, 8, 9, 22, 50] fun K hK => ?_
    simp
    repeat refine ⟨by first | omega | assumption | (simp only [maxLen]; omega) | (intros; omega) | decide, ?_⟩
    refine hK _ ?_
    clear hK K
    refine AWp.ret ?_
    repeat first | refine thenN ?_ | refine thenX ?_ | refine thenR ?_ | refine blockN ?_ | refine blockR ?_ | refine blockX ?_ | refine blockM rfl ?_
    simp [RetOk, RV, RVs, hb]
  · try simp at h22
    have hL : s.length = 10 := by omega
    refine AWp.skip ?_
    repeat first | refine thenN ?_ | refine thenX ?_ | refine thenR ?_ | refine blockN ?_ | refine blockR ?_ | refine blockX ?_ | refine blockM rfl ?_
    -- region 3
    refine AWp.rseq E_ok [0, 2, 3, 4, 5, 6, 7, 8, 9, 22, 50] fun K hK => ?_
    simp
    repeat refine ⟨by first | omega | assumption | (simp only [maxLen]; omega) | (intros; omega) | decide, ?_⟩
    refine meet.of (date_number (List.take 4 s) (by simp; omega) (take_ne hL).1) ?_
    simp
    repeat refine ⟨by first | omega | assumption | (simp only [maxLen]; omega) | (intros; omega) | decide, ?_⟩
    refine hK _ ?_
    clear hK K
    -- region 4
    refine AWp.rseq E_ok [0, 2, 3, 4, 5, 6, 7, 8, 9, 22, 50] fun K hK => ?_
    simp
    repeat refine ⟨by first | omega | assumption | (simp only [maxLen]; omega) | (intros; omega) | decide, ?_⟩
    refine meet.of (date_number (List.drop 5 (List.take 7 s)) (by simp; omega) (take_ne hL).2.1) ?_
    simp
    repeat refine ⟨by first | omega | assumption | (simp only [maxLen]; omega) | (intros; omega) | decide, ?_⟩
    refine hK _ ?_
    clear hK K
    -- region 5
    refine AWp.rseq E_ok [0, 2, 3, 4, 5, 6, 7, 8, 9, 22, 50] fun K hK => ?_
    simp
    repeat refine ⟨by first | omega | assumption | (simp only [maxLen]; omega) | (intros; omega) | decide, ?_⟩
    refine meet.of (date_number (List.drop 8 s) (by simp; omega) (take_ne hL).2.2) ?_
    simp
    repeat refine ⟨by first | omega | assumption | (simp only [maxLen]; omega) | (intros; omega) | decide, ?_⟩
    refine hK _ ?_
    clear hK K
    refine AWp.seq ?_
    -- region 6
    refine AWp.rseq E_ok [0, 2, 3, 4, 5, 6, 7, 8, 9, 22, 50] fun K hK => ?_
    simp
    repeat refine ⟨by first | omega | assumption | (simp only [maxLen]; omega) | (intros; omega) | decide, ?_⟩
    refine hK _ ?_
    clear hK K
    refine AWp.cond rfl (fun h50 => ?_) (fun h50 => ?_)
    · try simp at h50
      have hb := parse_nonum (s := s) (by intro hh; obtain ⟨⟨a, b⟩, c⟩ := hh; simp [a, b, c] at h50)
      -- region 7
      refine AWp.rseq E_ok [0, 2, 3, 4, 5, 6, 7, 8, 9, 22, 50] fun K hK => ?_
      simp
      repeat refine ⟨by first | omega | assumption | (simp only [maxLen]; omega) | (intros; omega) | decide, ?_⟩
      refine hK _ ?_
      clear hK K
      refine AWp.ret ?_
      repeat first | refine thenN ?_ | refine thenX ?_ | refine thenR ?_ | refine blockN ?_ | refine blockR ?_ | refine blockX ?_ | refine blockM rfl ?_
      simp [RetOk, RV, RVs, hb]
    · try simp at h50
      have hb := parse_good (s := s) hL (by omega) (by omega) h50.1.1 h50.1.2 h50.2
      refine AWp.skip ?_
      repeat first | refine thenN ?_ | refine thenX ?_ | refine thenR ?_ | refine blockN ?_ | refine blockR ?_ | refine blockX ?_ | refine blockM rfl ?_
      -- region 8
      refine AWp.rseq E_ok [0, 2, 3, 4, 5, 6, 7, 8, 9, 22, 50] fun K hK => ?_
      simp
      repeat refine ⟨by first | omega | assumption | (simp only [maxLen]; omega) | (intros; omega) | decide, ?_⟩
      refine meet.of (date_Of _ _ _) ?_
      simp
      repeat refine ⟨by first | omega | assumption | (simp only [maxLen]; omega) | (intros; omega) | decide, ?_⟩
      refine hK _ ?_
      clear hK K
      refine AWp.ret ?_
      repeat first | refine thenN ?_ | refine thenX ?_ | refine thenR ?_ | refine blockN ?_ | refine blockR ?_ | refine blockX ?_ | refine blockM rfl ?_
      simp [RetOk, RV, RVs, hb]
end Go.Proofs.YtmofeikdaoknlaaDoor

/- Dates: the document's reading of a text, sign by sign. -/
namespace Pl
set_option linter.unusedVariables false
set_option linter.unusedSimpArgs false
def chN (s : List UInt8) (j : Nat) : Nat := (s[j]?.getD 0).toNat
def okC (s : List UInt8) (j : Nat) : Prop := if j = 4 ∨ j = 7 then chN s j = 45 else 48 ≤ chN s j ∧ chN s j ≤ 57
def stP (s : List UInt8) : Nat → Nat × Int × Int × Int
  | 0 => (0, 0, 0, 0)
  | i + 1 =>
    let p := stP s i
    if i = 4 ∨ i = 7 then (p.1 + 1, p.2)
    else if p.1 = 0 then (0, 10 * p.2.1 + ((chN s i : Int) - 48), p.2.2)
    else if p.1 = 1 then (1, p.2.1, 10 * p.2.2.1 + ((chN s i : Int) - 48), p.2.2.2)
    else (p.1, p.2.1, p.2.2.1, 10 * p.2.2.2 + ((chN s i : Int) - 48))
theorem stP_zero (s : List UInt8) : stP s 0 = (0, 0, 0, 0) := rfl
theorem stP_at (s : List UInt8) {i : Nat} (h : i ≤ 10) : (stP s i).1 ≤ 2 := by
  have : i = 0 ∨ i = 1 ∨ i = 2 ∨ i = 3 ∨ i = 4 ∨ i = 5 ∨ i = 6 ∨ i = 7 ∨ i = 8 ∨ i = 9 ∨ i = 10 := by omega
  rcases this with rfl | rfl | rfl | rfl | rfl | rfl | rfl | rfl | rfl | rfl | rfl <;> simp [stP]
theorem stP_dash (s : List UInt8) {i : Nat} (h : i = 4 ∨ i = 7) : stP s (i + 1) = ((stP s i).1 + 1, (stP s i).2) := by
  rw [stP]; rw [if_pos h]
theorem stP_0 (s : List UInt8) {i : Nat} (h : ¬ (i = 4 ∨ i = 7)) (ha : (stP s i).1 = 0) : stP s (i + 1) = (0, 10 * (stP s i).2.1 + ((chN s i : Int) - 48), (stP s i).2.2) := by
  rw [stP]; rw [if_neg h, if_pos ha]
theorem stP_1 (s : List UInt8) {i : Nat} (h : ¬ (i = 4 ∨ i = 7)) (ha : (stP s i).1 = 1) : stP s (i + 1) = (1, (stP s i).2.1, 10 * (stP s i).2.2.1 + ((chN s i : Int) - 48), (stP s i).2.2.2) := by
  rw [stP]; rw [if_neg h, if_neg (by omega), if_pos ha]
theorem stP_2 (s : List UInt8) {i : Nat} (h : ¬ (i = 4 ∨ i = 7)) (ha : (stP s i).1 = 2) : stP s (i + 1) = (2, (stP s i).2.1, (stP s i).2.2.1, 10 * (stP s i).2.2.2 + ((chN s i : Int) - 48)) := by
  rw [stP]; rw [if_neg h, if_neg (by omega), if_neg (by omega), ha]
theorem stP_rng (s : List UInt8) : ∀ {i : Nat}, i ≤ 10 → (∀ j, j < i → okC s j) →
    (0 ≤ (stP s i).2.1 ∧ (stP s i).2.1 < 10 ^ i) ∧ (0 ≤ (stP s i).2.2.1 ∧ (stP s i).2.2.1 < 10 ^ i) ∧ (0 ≤ (stP s i).2.2.2 ∧ (stP s i).2.2.2 < 10 ^ i)
  | 0, _, _ => by simp [stP]
  | i + 1, hi, h => by
    obtain ⟨a, b, c⟩ := stP_rng s (i := i) (by omega) (fun j hj => h j (by omega))
    have e : (10 : Int) ^ (i + 1) = 10 * 10 ^ i := by rw [Int.pow_succ]; omega
    have p0 : (0 : Int) < 10 ^ i := by exact Int.pow_pos (by decide)
    rw [e]
    by_cases hd : i = 4 ∨ i = 7
    · rw [stP_dash s hd]; simp only; omega
    · have hc := h i (by omega)
      unfold okC at hc; rw [if_neg hd] at hc
      have ha := stP_at s (i := i) (by omega)
      rcases (show (stP s i).1 = 0 ∨ (stP s i).1 = 1 ∨ (stP s i).1 = 2 by omega) with h0 | h0 | h0
      · rw [stP_0 s hd h0]; simp only; omega
      · rw [stP_1 s hd h0]; simp only; omega
      · rw [stP_2 s hd h0]; simp only; omega
theorem ten_pow {i : Nat} (h : i ≤ 10) : (10 : Int) ^ i ≤ 10000000000 := by
  have : i = 0 ∨ i = 1 ∨ i = 2 ∨ i = 3 ∨ i = 4 ∨ i = 5 ∨ i = 6 ∨ i = 7 ∨ i = 8 ∨ i = 9 ∨ i = 10 := by omega
  rcases this with rfl | rfl | rfl | rfl | rfl | rfl | rfl | rfl | rfl | rfl | rfl <;> decide
theorem stP_small (s : List UInt8) {i : Nat} (hi : i ≤ 10) (h : ∀ j, j < i → okC s j) :
    (0 ≤ (stP s i).2.1 ∧ (stP s i).2.1 < 10000000000) ∧ (0 ≤ (stP s i).2.2.1 ∧ (stP s i).2.2.1 < 10000000000) ∧ (0 ≤ (stP s i).2.2.2 ∧ (stP s i).2.2.2 < 10000000000) := by
  have := stP_rng s hi h
  have t := ten_pow hi
  omega
theorem ok_next {s : List UInt8} {i : Nat} (h : ∀ j, j < i → okC s j) (hc : okC s i) : ∀ j, j < i + 1 → okC s j := fun j hj => by
  rcases (show j < i ∨ j = i by omega) with hh | hh
  · exact h j hh
  · rw [hh]; exact hc
theorem isDig_ch {c : UInt8} (h : 48 ≤ c.toNat ∧ c.toNat ≤ 57) : isDig c = true := by simpa [isDig] using h
theorem ch_isDig {c : UInt8} (h : isDig c = true) : 48 ≤ c.toNat ∧ c.toNat ≤ 57 := by simpa [isDig] using h
theorem ten_list {s : List UInt8} (h : s.length = 10) : ∃ a b c d e f g i j k, s = [a, b, c, d, e, f, g, i, j, k] := by
  match s, h with
  | [a, b, c, d, e, f, g, i, j, k], _ => exact ⟨a, b, c, d, e, f, g, i, j, k, rfl⟩
theorem parse_all {s : List UInt8} (hl : s.length = 10) (h : ∀ j, j < 10 → okC s j) : parseR s = ofR (stP s 10).2.1 (stP s 10).2.2.1 (stP s 10).2.2.2 := by
  obtain ⟨a, b, c, d, e, f, g, i, j, k, rfl⟩ := ten_list hl
  have o0 := h 0 (by omega); have o1 := h 1 (by omega); have o2 := h 2 (by omega); have o3 := h 3 (by omega); have o4 := h 4 (by omega)
  have o5 := h 5 (by omega); have o6 := h 6 (by omega); have o7 := h 7 (by omega); have o8 := h 8 (by omega); have o9 := h 9 (by omega)
  simp [okC, chN] at o0 o1 o2 o3 o4 o5 o6 o7 o8 o9
  have e4 : e = 45 := UInt8.toNat_inj.1 o4
  have e7 : i = 45 := UInt8.toNat_inj.1 o7
  have i0 := isDig_ch o0; have i1 := isDig_ch o1; have i2 := isDig_ch o2; have i3 := isDig_ch o3
  have i5 := isDig_ch o5; have i6 := isDig_ch o6; have i8 := isDig_ch o8; have i9 := isDig_ch o9
  unfold parseR
  rw [if_pos (by simp [formB, e4, e7, i0, i1, i2, i3, i5, i6, i8, i9])]
  simp [valF, stP, chN]
theorem parse_sign {s : List UInt8} {i : Nat} (hl : s.length = 10) (hi : i < 10) (h : ¬ okC s i) : parseR s = (0, 3) := by
  refine parse_bad fun hb => h ?_
  obtain ⟨a, b, c, d, e, f, g, w, j, k, rfl⟩ := ten_list hl
  simp [formB] at hb
  obtain ⟨h4, h7, ⟨i0, i1, i2, i3⟩, ⟨i5, i6⟩, i8, i9⟩ := hb
  have d0 := ch_isDig i0; have d1 := ch_isDig i1; have d2 := ch_isDig i2; have d3 := ch_isDig i3
  have d5 := ch_isDig i5; have d6 := ch_isDig i6; have d8 := ch_isDig i8; have d9 := ch_isDig i9
  have : i = 0 ∨ i = 1 ∨ i = 2 ∨ i = 3 ∨ i = 4 ∨ i = 5 ∨ i = 6 ∨ i = 7 ∨ i = 8 ∨ i = 9 := by omega
  rcases this with rfl | rfl | rfl | rfl | rfl | rfl | rfl | rfl | rfl | rfl <;> simp [okC, chN, h4, h7, d0, d1, d2, d3, d5, d6, d8, d9]
theorem of_rng (y m d : Int) : (0 ≤ (ofR y m d).1 ∧ (ofR y m d).1 ≤ 200000) ∧ (0 ≤ (ofR y m d).2 ∧ (ofR y m d).2 ≤ 2) := by
  by_cases h : d < 1 ∨ mlenD y m < d
  · rw [of_bad h]; decide
  · have hin := mlen_in (y := y) (m := m) (d := d) (by omega) (by omega)
    have ml := mlen_rng hin.1.1 hin.1.2 hin.2.1 hin.2.2
    have nr := ny_rng hin.1.1 (by omega)
    have b1 := bef_mono (y := y) (m := 1) (n := m) (by omega) (by omega) hin.2.1
    have b2 := bef_mono (y := y) (m := m) (n := 13) (by omega) hin.2.1 (by omega)
    rw [bef_first] at b1
    rw [bef_end hin.1.1 hin.1.2] at b2
    have yp := year_pos y
    rw [of_ok (by omega) (by omega)]
    simp only [dayD]
    omega
theorem of_r1 (y m d : Int) : (-9223372036854775808 ≤ (ofR y m d).1) = True := eq_true (by have := of_rng y m d; omega)
theorem of_r2 (y m d : Int) : ((ofR y m d).1 ≤ 9223372036854775807) = True := eq_true (by have := of_rng y m d; omega)
theorem of_r3 (y m d : Int) : (-9223372036854775808 ≤ (ofR y m d).2) = True := eq_true (by have := of_rng y m d; omega)
theorem of_r4 (y m d : Int) : ((ofR y m d).2 ≤ 9223372036854775807) = True := eq_true (by have := of_rng y m d; omega)
open Go Ab
/-- the number that is being read -/
def curP (s : List UInt8) (i : Nat) : Int := if (stP s i).1 = 0 then (stP s i).2.1 else if (stP s i).1 = 1 then (stP s i).2.2.1 else (stP s i).2.2.2
theorem cur_rng (s : List UInt8) {i : Nat} (hi : i ≤ 10) (h : ∀ j, j < i → okC s j) : 0 ≤ curP s i ∧ curP s i < 10000000000 := by
  have := stP_small s hi h
  unfold curP
  split
  · omega
  · split <;> omega
theorem cur_get (s : List UInt8) {i : Nat} (hi : i ≤ 10) : [D.int IntKind.i64 (stP s i).2.1, D.int IntKind.i64 (stP s i).2.2.1, D.int IntKind.i64 (stP s i).2.2.2][(stP s i).1]?.getD (D.int IntKind.i64 0) = D.int IntKind.i64 (curP s i) := by
  have ha := stP_at s hi
  unfold curP
  rcases (show (stP s i).1 = 0 ∨ (stP s i).1 = 1 ∨ (stP s i).1 = 2 by omega) with h0 | h0 | h0 <;> simp [h0]
theorem cur_set (s : List UInt8) {i : Nat} (hi : i ≤ 10) (hd : ¬ (i = 4 ∨ i = 7)) (v : Int) (hv : v = 10 * curP s i + ((chN s i : Int) - 48)) :
    ([D.int IntKind.i64 (stP s i).2.1, D.int IntKind.i64 (stP s i).2.2.1, D.int IntKind.i64 (stP s i).2.2.2].set (stP s i).1 (D.int IntKind.i64 v)) = [D.int IntKind.i64 (stP s (i + 1)).2.1, D.int IntKind.i64 (stP s (i + 1)).2.2.1, D.int IntKind.i64 (stP s (i + 1)).2.2.2] ∧ (stP s (i + 1)).1 = (stP s i).1 := by
  have ha := stP_at s hi
  subst hv
  unfold curP
  rcases (show (stP s i).1 = 0 ∨ (stP s i).1 = 1 ∨ (stP s i).1 = 2 by omega) with h0 | h0 | h0
  · rw [stP_0 s hd h0, if_pos h0, h0]; exact ⟨rfl, rfl⟩
  · rw [stP_1 s hd h0, if_neg (by omega), if_pos h0, h0]; exact ⟨rfl, rfl⟩
  · rw [stP_2 s hd h0, if_neg (by omega), if_neg (by omega), h0]; exact ⟨rfl, rfl⟩
end Pl

set_option maxRecDepth 100000
set_option linter.unusedSimpArgs false
set_option linter.unusedVariables false
namespace Go.Proofs.YtmofeikdaoknlaaDoor
open Go Ab Pl
theorem ref03_Length (y m : Int) : ACalls E.P 16 [.int .i64 y, .int .i64 m] (.d (.int .i64 (mlenD y m))) := by
  refine ACalls.intro E_ok Tryd.func16 rfl rfl Tryd.ntmps16 Tryd.results16 (Nat.le_of_ble_eq_true rfl) fun hok base S0 w0 => ?_
  -- region 0
  refine AWp.rseq E_ok [0, 1, 4, 5, 19, 34] fun K hK => ?_
  simp
  repeat refine ⟨by first | omega | assumption | (simp only [maxLen]; omega) | (intros; omega) | decide, ?_⟩
  refine hK _ ?_
  clear hK K
  refine AWp.seq ?_
  -- region 1
  refine AWp.rseq E_ok [0, 1, 4, 5, 19, 34] fun K hK => ?_
  simp
  repeat refine ⟨by first | omega | assumption | (simp only [maxLen]; omega) | (intros; omega) | decide, ?_⟩
  refine hK _ ?_
  clear hK K
  refine AWp.cond rfl (fun h19 => ?_) (fun h19 => ?_)
  · try simp at h19
    -- region 2
    refine AWp.rseq E_ok [0, 1, 4, 5, 19, 34] fun K hK => ?_
    simp
    repeat refine ⟨by first | omega | assumption | (simp only [maxLen]; omega) | (intros; omega) | decide, ?_⟩
    refine hK _ ?_
    clear hK K
    refine AWp.ret ?_
    repeat first | refine thenN ?_ | refine thenX ?_ | refine thenR ?_ | refine blockN ?_ | refine blockR ?_ | refine blockX ?_ | refine blockM rfl ?_
    first | (rw [mlen_out (by omega)]; simp [RetOk, RV, RVs]; done) | (rw [hq]; simp [RetOk, RV, RVs]; done)
  · try simp at h19
    refine AWp.skip ?_
    repeat first | refine thenN ?_ | refine thenX ?_ | refine thenR ?_ | refine blockN ?_ | refine blockR ?_ | refine blockX ?_ | refine blockM rfl ?_
    refine AWp.seq ?_
    -- region 3
    refine AWp.rseq E_ok [0, 1, 4, 5, 19, 34] fun K hK => ?_
    simp
    repeat refine ⟨by first | omega | assumption | (simp only [maxLen]; omega) | (intros; omega) | decide, ?_⟩
    refine hK _ ?_
    clear hK K
    refine AWp.cond rfl (fun h34 => ?_) (fun h34 => ?_)
    · try simp at h34
      have hlp := (leap_iff (y := y) (by omega) (by omega)).2
      have ht : y.tmod 4 = y % 4 := Int.tmod_eq_emod_of_nonneg (by omega)
      have hq := mlen_29 (y := y) (m := m) (by omega) (by omega) (by omega) (hlp (by omega))
      -- region 4
      refine AWp.rseq E_ok [0, 1, 4, 5, 19, 34] fun K hK => ?_
      simp
      repeat refine ⟨by first | omega | assumption | (simp only [maxLen]; omega) | (intros; omega) | decide, ?_⟩
      refine hK _ ?_
      clear hK K
      refine AWp.ret ?_
      repeat first | refine thenN ?_ | refine thenX ?_ | refine thenR ?_ | refine blockN ?_ | refine blockR ?_ | refine blockX ?_ | refine blockM rfl ?_
      first | (rw [mlen_out (by omega)]; simp [RetOk, RV, RVs]; done) | (rw [hq]; simp [RetOk, RV, RVs]; done)
    · try simp at h34
      have hlp := (leap_iff (y := y) (by omega) (by omega)).1
      have ht : y.tmod 4 = y % 4 := Int.tmod_eq_emod_of_nonneg (by omega)
      have hq := mlen_tbl (y := y) (m := m) (by omega) (by omega) (by omega) (by omega) (fun hh => by have := hlp hh.2; omega)
      have e1 : IntKind.i64.wrap (m - 1) = m - 1 := by rw [wrap_i64] <;> omega
      have tg := tbl_row (m := m) (by omega)
      refine AWp.skip ?_
      repeat first | refine thenN ?_ | refine thenX ?_ | refine thenR ?_ | refine blockN ?_ | refine blockR ?_ | refine blockX ?_ | refine blockM rfl ?_
      -- region 5
      refine AWp.rseq E_ok [0, 1, 4, 5, 19, 34] fun K hK => ?_
      simp [e1, tg]
      repeat refine ⟨by first | omega | assumption | (simp only [maxLen]; omega) | (intros; omega) | decide, ?_⟩
      refine hK _ ?_
      clear hK K
      -- region 6
      refine AWp.rseq E_ok [0, 1, 4, 5, 19, 34] fun K hK => ?_
      simp [e1, tg]
      repeat refine ⟨by first | omega | assumption | (simp only [maxLen]; omega) | (intros; omega) | decide, ?_⟩
      refine hK _ ?_
      clear hK K
      refine AWp.ret ?_
      repeat first | refine thenN ?_ | refine thenX ?_ | refine thenR ?_ | refine blockN ?_ | refine blockR ?_ | refine blockX ?_ | refine blockM rfl ?_
      first | (rw [mlen_out (by omega)]; simp [RetOk, RV, RVs]; done) | (rw [hq]; simp [RetOk, RV, RVs]; done)
end Go.Proofs.YtmofeikdaoknlaaDoor

set_option maxRecDepth 100000
set_option linter.unusedSimpArgs false
set_option linter.unusedVariables false
namespace Go.Proofs.YtmofeikdaoknlaaDoor
open Go Ab Pl
theorem ref03_Year (y : Int) (hy : 1900 ≤ y ∧ y ≤ 2199) : ACalls E.P 27 [.int .i64 y] (.d (.int .i64 (yearD y))) := by
  refine ACalls.intro E_ok Tryd.func27 rfl rfl Tryd.ntmps27 Tryd.results27 (Nat.le_of_ble_eq_true rfl) fun hok base S0 w0 => ?_
  have hl : (mlenD y 2 = 29) ↔ leapB y = true := by rw [mlen_ok hy.1 hy.2 (by omega) (by omega)]; cases leapB y <;> simp [tblD]
  -- region 0
  refine AWp.rseq E_ok [0, 2, 5] fun K hK => ?_
  simp
  repeat refine ⟨by first | omega | assumption | (simp only [maxLen]; omega) | (intros; omega) | decide, ?_⟩
  refine hK _ ?_
  clear hK K
  refine AWp.seq ?_
  -- region 1
  refine AWp.rseq E_ok [0, 2, 5] fun K hK => ?_
  simp
  repeat refine ⟨by first | omega | assumption | (simp only [maxLen]; omega) | (intros; omega) | decide, ?_⟩
  refine meet.of (ref03_Length y 2) ?_
  simp
  repeat refine ⟨by first | omega | assumption | (simp only [maxLen]; omega) | (intros; omega) | decide, ?_⟩
  refine hK _ ?_
  clear hK K
  refine AWp.cond rfl (fun h5 => ?_) (fun h5 => ?_)
  · try simp at h5
    -- region 2
    refine AWp.rseq E_ok [0, 2, 5] fun K hK => ?_
    simp [h5]
    repeat refine ⟨by first | omega | assumption | (simp only [maxLen]; omega) | (intros; omega) | decide, ?_⟩
    refine hK _ ?_
    clear hK K
    refine AWp.ret ?_
    repeat first | refine thenN ?_ | refine thenX ?_ | refine thenR ?_ | refine blockN ?_ | refine blockR ?_ | refine blockX ?_ | refine blockM rfl ?_
    first | (simp [RetOk, RV, RVs, yearD, hl.1 h5]; done) | (simp [RetOk, RV, RVs, yearD, mt hl.2 h5])
  · try simp at h5
    refine AWp.skip ?_
    repeat first | refine thenN ?_ | refine thenX ?_ | refine thenR ?_ | refine blockN ?_ | refine blockR ?_ | refine blockX ?_ | refine blockM rfl ?_
    -- region 3
    refine AWp.rseq E_ok [0, 2, 5] fun K hK => ?_
    simp [h5]
    repeat refine ⟨by first | omega | assumption | (simp only [maxLen]; omega) | (intros; omega) | decide, ?_⟩
    refine hK _ ?_
    clear hK K
    refine AWp.ret ?_
    repeat first | refine thenN ?_ | refine thenX ?_ | refine thenR ?_ | refine blockN ?_ | refine blockR ?_ | refine blockX ?_ | refine blockM rfl ?_
    first | (simp [RetOk, RV, RVs, yearD, hl.1 h5]; done) | (simp [RetOk, RV, RVs, yearD, mt hl.2 h5])
end Go.Proofs.YtmofeikdaoknlaaDoor

set_option maxRecDepth 100000
set_option linter.unusedSimpArgs false
set_option linter.unusedVariables false
namespace Go.Proofs.YtmofeikdaoknlaaDoor
open Go Ab Pl
theorem ref03_Of (y m d : Int) : ACalls E.P 11 [.int .i64 y, .int .i64 m, .int .i64 d] (.tup [.int .i64 (ofR y m d).1, .int .i64 (ofR y m d).2]) := by
  refine ACalls.intro E_ok Tryd.func11 rfl rfl Tryd.ntmps11 Tryd.results11 (Nat.le_of_ble_eq_true rfl) fun hok base S0 w0 => ?_
  -- region 0
  refine AWp.rseq E_ok [0, 1, 2, 6, 7, 8, 9, 10, 19, 24, 33] fun K hK => ?_
  simp [ny_first, bef_first]
  repeat refine ⟨by first | omega | assumption | (simp only [maxLen]; omega) | (intros; omega) | decide, ?_⟩
  refine hK _ ?_
  clear hK K
  refine AWp.seq ?_
  -- region 1
  refine AWp.rseq E_ok [0, 1, 2, 6, 7, 8, 9, 10, 19, 24, 33] fun K hK => ?_
  simp [ny_first, bef_first]
  repeat refine ⟨by first | omega | assumption | (simp only [maxLen]; omega) | (intros; omega) | decide, ?_⟩
  refine meet.of (ref03_Length y m) ?_
  simp [ny_first, bef_first]
  repeat refine ⟨by first | omega | assumption | (simp only [maxLen]; omega) | (intros; omega) | decide, ?_⟩
  refine hK _ ?_
  clear hK K
  refine AWp.cond rfl (fun h19 => ?_) (fun h19 => ?_)
  · try simp at h19
    have hb := of_bad h19
    -- region 2
    refine AWp.rseq E_ok [0, 1, 2, 6, 7, 8, 9, 10, 19, 24, 33] fun K hK => ?_
    simp [ny_first, bef_first]
    repeat refine ⟨by first | omega | assumption | (simp only [maxLen]; omega) | (intros; omega) | decide, ?_⟩
    refine hK _ ?_
    clear hK K
    refine AWp.ret ?_
    repeat first | refine thenN ?_ | refine thenX ?_ | refine thenR ?_ | refine blockN ?_ | refine blockR ?_ | refine blockX ?_ | refine blockM rfl ?_
    first | (simp [RetOk, RV, RVs, hb]; done) | (obtain rfl : j = m := (by omega); rw [of_ok (by omega) (by omega)]; simp [RetOk, RV, RVs, dayD]; omega)
  · try simp at h19
    have hin := mlen_in (y := y) (m := m) (d := d) (by omega) (by omega)
    have hd31 := mlen_rng hin.1.1 hin.1.2 hin.2.1 hin.2.2
    have ed : IntKind.i64.wrap (d - 1) = d - 1 := by rw [wrap_i64] <;> omega
    refine AWp.skip ?_
    repeat first | refine thenN ?_ | refine thenX ?_ | refine thenR ?_ | refine blockN ?_ | refine blockR ?_ | refine blockX ?_ | refine blockM rfl ?_
    -- region 3
    refine AWp.rseq E_ok [0, 1, 2, 6, 7, 8, 9, 10, 19, 24, 33] fun K hK => ?_
    simp [ny_first, bef_first, ed]
    repeat refine ⟨by first | omega | assumption | (simp only [maxLen]; omega) | (intros; omega) | decide, ?_⟩
    refine hK _ ?_
    clear hK K
    refine AWp.seq ?_
    -- region 4
    refine AWp.rseq E_ok [0, 1, 2, 6, 7, 8, 9, 10, 19, 24, 33] fun K hK => ?_
    simp [ny_first, bef_first, ed]
    repeat refine ⟨by first | omega | assumption | (simp only [maxLen]; omega) | (intros; omega) | decide, ?_⟩
    refine hK _ ?_
    clear hK K
    refine AWp.block ?_
    refine AWp.loop (ι := { k : Int // 1900 ≤ k ∧ k ≤ y }) (fun x => match x with | ⟨i, hi, hi2⟩ => [(0, T.val (D.int IntKind.i64 y)), (1, T.val (D.int IntKind.i64 m)), (2, T.val (D.int IntKind.i64 d)), (8, T.val (.int .i64 (d - 1 + nyD i))), (9, T.val (.int .i64 i))]) (fun x => match x with | ⟨i, hi, hi2⟩ => (y - i).toNat) ⟨1900, Int.le_refl _, hin.1.1⟩ ?_ ?_
    · simp [Weak, TW, ny_first, bef_first]
    rintro ⟨i, hi, hi2⟩
    simp only
    try simp only at hi
    try simp only at hi2
    refine AWp.seq ?_
    -- region 5
    refine AWp.rseq E_ok [0, 1, 2, 6, 7, 8, 9, 10, 19, 24, 33] fun K hK => ?_
    simp [ny_first, bef_first, ed]
    repeat refine ⟨by first | omega | assumption | (simp only [maxLen]; omega) | (intros; omega) | decide, ?_⟩
    refine hK _ ?_
    clear hK K
    refine AWp.cond rfl (fun h24 => ?_) (fun h24 => ?_)
    · try simp at h24
      refine AWp.skip ?_
      repeat first | refine thenN ?_ | refine thenX ?_ | refine thenR ?_ | refine blockN ?_ | refine blockR ?_ | refine blockX ?_ | refine blockM rfl ?_
      refine AWp.seq ?_
      refine AWp.block ?_
      -- region 7
      refine AWp.rend E_ok [0, 1, 2, 6, 7, 8, 9, 10, 19, 24, 33] fun K hK => ?_
      simp [ny_first, bef_first, ed]
      repeat refine ⟨by first | omega | assumption | (simp only [maxLen]; omega) | (intros; omega) | decide, ?_⟩
      refine meet.of (ref03_Year i (by omega)) ?_
      simp [ny_first, bef_first, ed]
      repeat refine ⟨by first | omega | assumption | (simp only [maxLen]; omega) | (intros; omega) | decide, ?_⟩
      refine hK _ ?_
      clear hK K
      repeat first | refine thenN ?_ | refine thenX ?_ | refine thenR ?_ | refine blockN ?_ | refine blockR ?_ | refine blockX ?_ | refine blockM rfl ?_
      -- region 6
      refine AWp.rend E_ok [0, 1, 2, 6, 7, 8, 9, 10, 19, 24, 33] fun K hK => ?_
      simp [ny_first, bef_first, ed]
      repeat refine ⟨by first | omega | assumption | (simp only [maxLen]; omega) | (intros; omega) | decide, ?_⟩
      refine hK _ ?_
      clear hK K
      repeat first | refine thenN ?_ | refine thenX ?_ | refine thenR ?_ | refine blockN ?_ | refine blockR ?_ | refine blockX ?_ | refine blockM rfl ?_
      have hw : IntKind.i64.wrap (i + 1) = i + 1 := by rw [wrap_i64] <;> omega
      have st := ny_step hi (by omega)
      have hr2 := ny_rng hi (by omega)
      have yp := year_pos i
      have hw2 : IntKind.i64.wrap (d - 1 + nyD i + yearD i) = d - 1 + nyD i + yearD i := by rw [wrap_i64] <;> omega
      refine ⟨⟨i + 1, by omega, by omega⟩, ?_, by simp only; omega⟩
      simp [Weak, TW, hw, hw2, st]
      omega
    · try simp at h24
      have hiy : nyD i = nyD y := by rw [show i = y by omega]
      refine AWp.exit ?_
      repeat first | refine thenN ?_ | refine thenX ?_ | refine thenR ?_ | refine blockN ?_ | refine blockR ?_ | refine blockX ?_ | refine blockM rfl ?_
      refine AWp.seq ?_
      -- region 8
      refine AWp.rseq E_ok [0, 1, 2, 6, 7, 8, 9, 10, 19, 24, 33] fun K hK => ?_
      simp [ny_first, bef_first, ed, hiy]
      repeat refine ⟨by first | omega | assumption | (simp only [maxLen]; omega) | (intros; omega) | decide, ?_⟩
      refine hK _ ?_
      clear hK K
      refine AWp.block ?_
      refine AWp.loop (ι := { k : Int // 1 ≤ k ∧ k ≤ m }) (fun x => match x with | ⟨j, hj, hj2⟩ => [(0, T.val (D.int IntKind.i64 y)), (1, T.val (D.int IntKind.i64 m)), (2, T.val (D.int IntKind.i64 d)), (8, T.val (.int .i64 (d - 1 + nyD y + befD y j))), (10, T.val (.int .i64 j))]) (fun x => match x with | ⟨j, hj, hj2⟩ => (m - j).toNat) ⟨1, Int.le_refl _, hin.2.1⟩ ?_ ?_
      · simp [Weak, TW, ny_first, bef_first]
      rintro ⟨j, hj, hj2⟩
      simp only
      try simp only at hj
      try simp only at hj2
      refine AWp.seq ?_
      -- region 9
      refine AWp.rseq E_ok [0, 1, 2, 6, 7, 8, 9, 10, 19, 24, 33] fun K hK => ?_
      simp [ny_first, bef_first, ed, hiy]
      repeat refine ⟨by first | omega | assumption | (simp only [maxLen]; omega) | (intros; omega) | decide, ?_⟩
      refine hK _ ?_
      clear hK K
      refine AWp.cond rfl (fun h33 => ?_) (fun h33 => ?_)
      · try simp at h33
        refine AWp.skip ?_
        repeat first | refine thenN ?_ | refine thenX ?_ | refine thenR ?_ | refine blockN ?_ | refine blockR ?_ | refine blockX ?_ | refine blockM rfl ?_
        refine AWp.seq ?_
        refine AWp.block ?_
        -- region 11
        refine AWp.rend E_ok [0, 1, 2, 6, 7, 8, 9, 10, 19, 24, 33] fun K hK => ?_
        simp [ny_first, bef_first, ed, hiy]
        repeat refine ⟨by first | omega | assumption | (simp only [maxLen]; omega) | (intros; omega) | decide, ?_⟩
        refine meet.of (ref03_Length y j) ?_
        simp [ny_first, bef_first, ed, hiy]
        repeat refine ⟨by first | omega | assumption | (simp only [maxLen]; omega) | (intros; omega) | decide, ?_⟩
        refine hK _ ?_
        clear hK K
        repeat first | refine thenN ?_ | refine thenX ?_ | refine thenR ?_ | refine blockN ?_ | refine blockR ?_ | refine blockX ?_ | refine blockM rfl ?_
        -- region 10
        refine AWp.rend E_ok [0, 1, 2, 6, 7, 8, 9, 10, 19, 24, 33] fun K hK => ?_
        simp [ny_first, bef_first, ed, hiy]
        repeat refine ⟨by first | omega | assumption | (simp only [maxLen]; omega) | (intros; omega) | decide, ?_⟩
        refine hK _ ?_
        clear hK K
        repeat first | refine thenN ?_ | refine thenX ?_ | refine thenR ?_ | refine blockN ?_ | refine blockR ?_ | refine blockX ?_ | refine blockM rfl ?_
        have hw : IntKind.i64.wrap (j + 1) = j + 1 := by rw [wrap_i64] <;> omega
        have st := bef_step hin.1.1 hin.1.2 hj (by omega)
        have hr2 := ny_rng hin.1.1 (by omega)
        have b1 := bef_mono (y := y) (m := 1) (n := j) (by omega) (by omega) hj
        have b2 := bef_mono (y := y) (m := j) (n := 13) (by omega) hj (by omega)
        rw [bef_first] at b1
        rw [bef_end hin.1.1 hin.1.2] at b2
        have yp := year_pos y
        have ml := mlen_rng hin.1.1 hin.1.2 hj (by omega)
        have hw2 : IntKind.i64.wrap (d - 1 + nyD y + befD y j + mlenD y j) = d - 1 + nyD y + befD y j + mlenD y j := by rw [wrap_i64] <;> omega
        refine ⟨⟨j + 1, by omega, by omega⟩, ?_, by simp only; omega⟩
        simp [Weak, TW, hw, hw2, st]
        omega
      · try simp at h33
        refine AWp.exit ?_
        repeat first | refine thenN ?_ | refine thenX ?_ | refine thenR ?_ | refine blockN ?_ | refine blockR ?_ | refine blockX ?_ | refine blockM rfl ?_
        -- region 12
        refine AWp.rseq E_ok [0, 1, 2, 6, 7, 8, 9, 10, 19, 24, 33] fun K hK => ?_
        simp [ny_first, bef_first, ed, hiy]
        repeat refine ⟨by first | omega | assumption | (simp only [maxLen]; omega) | (intros; omega) | decide, ?_⟩
        refine hK _ ?_
        clear hK K
        refine AWp.ret ?_
        repeat first | refine thenN ?_ | refine thenX ?_ | refine thenR ?_ | refine blockN ?_ | refine blockR ?_ | refine blockX ?_ | refine blockM rfl ?_
        first | (simp [RetOk, RV, RVs, hb]; done) | (obtain rfl : j = m := (by omega); rw [of_ok (by omega) (by omega)]; simp [RetOk, RV, RVs, dayD]; omega)
end Go.Proofs.YtmofeikdaoknlaaDoor

set_option maxRecDepth 100000
set_option linter.unusedSimpArgs false
set_option linter.unusedVariables false
namespace Go.Proofs.YtmofeikdaoknlaaDoor
open Go Ab Pl
theorem ref03_Parse (s : List UInt8) : ACalls E.P 22 [.str s] (.tup [.int .i64 (parseR s).1, .int .i64 (parseR s).2]) := by
  refine ACalls.intro E_ok Tryd.func22 rfl rfl Tryd.ntmps22 Tryd.results22 (Nat.le_of_ble_eq_true rfl) fun hok base S0 w0 => ?_
  -- region 0
  refine AWp.rseq E_ok [0, 2, 3, 4, 5, 6, 9, 12, 20, 24, 36] fun K hK => ?_
  simp [stP_zero, of_r1, of_r2, of_r3, of_r4]
  try simp (disch := omega) only [wrap_i64]
  repeat refine ⟨by first | omega | assumption | (simp only [maxLen]; omega) | (intros; omega) | decide, ?_⟩
  refine hK _ ?_
  clear hK K
  refine AWp.seq ?_
  -- region 1
  refine AWp.rseq E_ok [0, 2, 3, 4, 5, 6, 9, 12, 20, 24, 36] fun K hK => ?_
  simp [stP_zero, of_r1, of_r2, of_r3, of_r4]
  try simp (disch := omega) only [wrap_i64]
  repeat refine ⟨by first | omega | assumption | (simp only [maxLen]; omega) | (intros; omega) | decide, ?_⟩
  refine hK _ ?_
  clear hK K
  refine AWp.cond rfl (fun h9 => ?_) (fun h9 => ?_)
  · try simp at h9
    have hb := parse_nodash (s := s) (by omega)
    -- region 2
    refine AWp.rseq E_ok [0, 2, 3, 4, 5, 6, 9, 12, 20, 24, 36] fun K hK => ?_
    simp [stP_zero, of_r1, of_r2, of_r3, of_r4]
    try simp (disch := omega) only [wrap_i64]
    repeat refine ⟨by first | omega | assumption | (simp only [maxLen]; omega) | (intros; omega) | decide, ?_⟩
    refine hK _ ?_
    clear hK K
    refine AWp.ret ?_
    repeat first | refine thenN ?_ | refine thenX ?_ | refine thenR ?_ | refine blockN ?_ | refine blockR ?_ | refine blockX ?_ | refine blockM rfl ?_
    first | (simp [RetOk, RV, RVs, hb]; done) | (obtain rfl : i = 10 := (by omega); rw [parse_all hL hk]; simp [RetOk, RV, RVs])
  · try simp at h9
    have hL : s.length = 10 := by omega
    refine AWp.skip ?_
    repeat first | refine thenN ?_ | refine thenX ?_ | refine thenR ?_ | refine blockN ?_ | refine blockR ?_ | refine blockX ?_ | refine blockM rfl ?_
    -- region 3
    refine AWp.rseq E_ok [0, 2, 3, 4, 5, 6, 9, 12, 20, 24, 36] fun K hK => ?_
    simp [stP_zero, of_r1, of_r2, of_r3, of_r4]
    try simp (disch := omega) only [wrap_i64]
    repeat refine ⟨by first | omega | assumption | (simp only [maxLen]; omega) | (intros; omega) | decide, ?_⟩
    refine hK _ ?_
    clear hK K
    -- region 4
    refine AWp.rseq E_ok [0, 2, 3, 4, 5, 6, 9, 12, 20, 24, 36] fun K hK => ?_
    simp [stP_zero, of_r1, of_r2, of_r3, of_r4]
    try simp (disch := omega) only [wrap_i64]
    repeat refine ⟨by first | omega | assumption | (simp only [maxLen]; omega) | (intros; omega) | decide, ?_⟩
    refine hK _ ?_
    clear hK K
    refine AWp.seq ?_
    -- region 5
    refine AWp.rseq E_ok [0, 2, 3, 4, 5, 6, 9, 12, 20, 24, 36] fun K hK => ?_
    simp [stP_zero, of_r1, of_r2, of_r3, of_r4]
    try simp (disch := omega) only [wrap_i64]
    repeat refine ⟨by first | omega | assumption | (simp only [maxLen]; omega) | (intros; omega) | decide, ?_⟩
    refine hK _ ?_
    clear hK K
    refine AWp.block ?_
    refine AWp.loop (ι := { i : Nat // i ≤ 10 ∧ ∀ j, j < i → okC s j }) (fun x => match x with | ⟨i, hi, hk⟩ => [(0, T.val (D.str s)), (4, T.own true (.int .i64 0) [.int .i64 (stP s i).2.1, .int .i64 (stP s i).2.2.1, .int .i64 (stP s i).2.2.2]), (5, T.val (.int .i64 (stP s i).1)), (6, T.val (.int .i64 i))]) (fun x => match x with | ⟨i, hi, hk⟩ => 10 - i) ⟨0, by omega, fun j hj => by omega⟩ ?_ ?_
    · simp [Weak, TW, stP_zero, of_r1, of_r2, of_r3, of_r4]
    rintro ⟨i, hi, hk⟩
    simp only
    try simp only at hi
    try simp only at hk
    refine AWp.seq ?_
    -- region 6
    refine AWp.rseq E_ok [0, 2, 3, 4, 5, 6, 9, 12, 20, 24, 36] fun K hK => ?_
    simp [stP_zero, of_r1, of_r2, of_r3, of_r4]
    try simp (disch := omega) only [wrap_i64]
    repeat refine ⟨by first | omega | assumption | (simp only [maxLen]; omega) | (intros; omega) | decide, ?_⟩
    refine hK _ ?_
    clear hK K
    refine AWp.cond rfl (fun h12 => ?_) (fun h12 => ?_)
    · try simp at h12
      refine AWp.skip ?_
      repeat first | refine thenN ?_ | refine thenX ?_ | refine thenR ?_ | refine blockN ?_ | refine blockR ?_ | refine blockX ?_ | refine blockM rfl ?_
      refine AWp.seq ?_
      refine AWp.block ?_
      -- region 8
      refine AWp.rseq E_ok [0, 2, 3, 4, 5, 6, 9, 12, 20, 24, 36] fun K hK => ?_
      simp [stP_zero, of_r1, of_r2, of_r3, of_r4, h12]
      try simp (disch := omega) only [wrap_i64]
      repeat refine ⟨by first | omega | assumption | (simp only [maxLen]; omega) | (intros; omega) | decide, ?_⟩
      refine hK _ ?_
      clear hK K
      refine AWp.cond rfl (fun h20 => ?_) (fun h20 => ?_)
      · try simp at h20
        refine AWp.seq ?_
        -- region 9
        refine AWp.rseq E_ok [0, 2, 3, 4, 5, 6, 9, 12, 20, 24, 36] fun K hK => ?_
        simp [stP_zero, of_r1, of_r2, of_r3, of_r4, h12]
        try simp (disch := omega) only [wrap_i64]
        repeat refine ⟨by first | omega | assumption | (simp only [maxLen]; omega) | (intros; omega) | decide, ?_⟩
        refine hK _ ?_
        clear hK K
        refine AWp.cond rfl (fun h24 => ?_) (fun h24 => ?_)
        · try simp at h24
          have hb := parse_sign (s := s) (i := i) hL (by omega) (by unfold okC chN; rw [if_pos (by omega)]; omega)
          -- region 10
          refine AWp.rseq E_ok [0, 2, 3, 4, 5, 6, 9, 12, 20, 24, 36] fun K hK => ?_
          simp [stP_zero, of_r1, of_r2, of_r3, of_r4, h12]
          try simp (disch := omega) only [wrap_i64]
          repeat refine ⟨by first | omega | assumption | (simp only [maxLen]; omega) | (intros; omega) | decide, ?_⟩
          refine hK _ ?_
          clear hK K
          refine AWp.ret ?_
          repeat first | refine thenN ?_ | refine thenX ?_ | refine thenR ?_ | refine blockN ?_ | refine blockR ?_ | refine blockX ?_ | refine blockM rfl ?_
          first | (simp [RetOk, RV, RVs, hb]; done) | (obtain rfl : i = 10 := (by omega); rw [parse_all hL hk]; simp [RetOk, RV, RVs])
        · try simp at h24
          have hc : okC s i := by unfold okC chN; rw [if_pos (by omega)]; omega
          have hA := stP_at s hi
          have st := stP_dash s (i := i) (by omega)
          refine AWp.skip ?_
          repeat first | refine thenN ?_ | refine thenX ?_ | refine thenR ?_ | refine blockN ?_ | refine blockR ?_ | refine blockX ?_ | refine blockM rfl ?_
          -- region 11
          refine AWp.rend E_ok [0, 2, 3, 4, 5, 6, 9, 12, 20, 24, 36] fun K hK => ?_
          simp [stP_zero, of_r1, of_r2, of_r3, of_r4, h12]
          try simp (disch := omega) only [wrap_i64]
          repeat refine ⟨by first | omega | assumption | (simp only [maxLen]; omega) | (intros; omega) | decide, ?_⟩
          refine hK _ ?_
          clear hK K
          repeat first | refine thenN ?_ | refine thenX ?_ | refine thenR ?_ | refine blockN ?_ | refine blockR ?_ | refine blockX ?_ | refine blockM rfl ?_
          -- region 7
          refine AWp.rend E_ok [0, 2, 3, 4, 5, 6, 9, 12, 20, 24, 36] fun K hK => ?_
          simp [stP_zero, of_r1, of_r2, of_r3, of_r4, h12]
          try simp (disch := omega) only [wrap_i64]
          repeat refine ⟨by first | omega | assumption | (simp only [maxLen]; omega) | (intros; omega) | decide, ?_⟩
          refine hK _ ?_
          clear hK K
          repeat first | refine thenN ?_ | refine thenX ?_ | refine thenR ?_ | refine blockN ?_ | refine blockR ?_ | refine blockX ?_ | refine blockM rfl ?_
          refine ⟨⟨i + 1, by omega, ok_next hk hc⟩, ?_, by simp only; omega⟩
          first | (simp [Weak, TW, st]; done) | (obtain ⟨c1, c2⟩ := cur_set s hi (by omega) _ rfl; simp only [chN] at c1; simp [Weak, TW, c1, c2]; done)
      · try simp at h20
        -- region 12
        refine AWp.rseq E_ok [0, 2, 3, 4, 5, 6, 9, 12, 20, 24, 36] fun K hK => ?_
        simp [stP_zero, of_r1, of_r2, of_r3, of_r4, h12]
        try simp (disch := omega) only [wrap_i64]
        repeat refine ⟨by first | omega | assumption | (simp only [maxLen]; omega) | (intros; omega) | decide, ?_⟩
        refine hK _ ?_
        clear hK K
        refine AWp.cond rfl (fun h36 => ?_) (fun h36 => ?_)
        · try simp at h36
          have hb := parse_sign (s := s) (i := i) hL (by omega) (by unfold okC chN; rw [if_neg (by omega)]; omega)
          -- region 13
          refine AWp.rseq E_ok [0, 2, 3, 4, 5, 6, 9, 12, 20, 24, 36] fun K hK => ?_
          simp [stP_zero, of_r1, of_r2, of_r3, of_r4, h12]
          try simp (disch := omega) only [wrap_i64]
          repeat refine ⟨by first | omega | assumption | (simp only [maxLen]; omega) | (intros; omega) | decide, ?_⟩
          refine hK _ ?_
          clear hK K
          refine AWp.ret ?_
          repeat first | refine thenN ?_ | refine thenX ?_ | refine thenR ?_ | refine blockN ?_ | refine blockR ?_ | refine blockX ?_ | refine blockM rfl ?_
          first | (simp [RetOk, RV, RVs, hb]; done) | (obtain rfl : i = 10 := (by omega); rw [parse_all hL hk]; simp [RetOk, RV, RVs])
        · try simp at h36
          have hc : okC s i := by unfold okC chN; rw [if_neg (by omega)]; omega
          have hA := stP_at s hi
          have tg := cur_get s hi
          have cr := cur_rng s hi hk
          have eu : IntKind.u8.wrap ((s[i]?.getD 0).toNat - 48 : Int) = (s[i]?.getD 0).toNat - 48 := by rw [IntKind.wrap_u8]; omega
          -- region 14
          refine AWp.rendT E_ok mixed [0, 2, 3, 4, 5, 6, 9, 12, 20, 24, 36] 13 (by kernel_rfl) fun K hK => ?_
          simp [stP_zero, of_r1, of_r2, of_r3, of_r4, h12, tg, eu]
          try simp (disch := omega) only [wrap_i64]
          repeat refine ⟨by first | omega | assumption | (simp only [maxLen]; omega) | (intros; omega) | decide, ?_⟩
          refine hK _ ?_
          clear hK K
          repeat first | refine thenN ?_ | refine thenX ?_ | refine thenR ?_ | refine blockN ?_ | refine blockR ?_ | refine blockX ?_ | refine blockM rfl ?_
          -- region 7
          refine AWp.rend E_ok [0, 2, 3, 4, 5, 6, 9, 12, 20, 24, 36] fun K hK => ?_
          simp [stP_zero, of_r1, of_r2, of_r3, of_r4, h12, tg, eu]
          try simp (disch := omega) only [wrap_i64]
          repeat refine ⟨by first | omega | assumption | (simp only [maxLen]; omega) | (intros; omega) | decide, ?_⟩
          refine hK _ ?_
          clear hK K
          repeat first | refine thenN ?_ | refine thenX ?_ | refine thenR ?_ | refine blockN ?_ | refine blockR ?_ | refine blockX ?_ | refine blockM rfl ?_
          refine ⟨⟨i + 1, by omega, ok_next hk hc⟩, ?_, by simp only; omega⟩
          first | (simp [Weak, TW, st]; done) | (obtain ⟨c1, c2⟩ := cur_set s hi (by omega) _ rfl; simp only [chN] at c1; simp [Weak, TW, c1, c2]; done)
    · try simp at h12
      refine AWp.exit ?_
      repeat first | refine thenN ?_ | refine thenX ?_ | refine thenR ?_ | refine blockN ?_ | refine blockR ?_ | refine blockX ?_ | refine blockM rfl ?_
      -- region 15
      refine AWp.rseqQ E_ok mixed [0, 2, 3, 4, 5, 6, 9, 12, 20, 24, 36] (by kernel_rfl) fun K hK => ?_
      simp [stP_zero, of_r1, of_r2, of_r3, of_r4, h12]
      try simp (disch := omega) only [wrap_i64]
      repeat refine ⟨by first | omega | assumption | (simp only [maxLen]; omega) | (intros; omega) | decide, ?_⟩
      refine meet.of (ref03_Of _ _ _) ?_
      simp [stP_zero, of_r1, of_r2, of_r3, of_r4, h12]
      try simp (disch := omega) only [wrap_i64]
      repeat refine ⟨by first | omega | assumption | (simp only [maxLen]; omega) | (intros; omega) | decide, ?_⟩
      refine hK _ ?_
      clear hK K
      refine AWp.ret ?_
      repeat first | refine thenN ?_ | refine thenX ?_ | refine thenR ?_ | refine blockN ?_ | refine blockR ?_ | refine blockX ?_ | refine blockM rfl ?_
      first | (simp [RetOk, RV, RVs, hb]; done) | (obtain rfl : i = 10 := (by omega); rw [parse_all hL hk]; simp [RetOk, RV, RVs])
end Go.Proofs.YtmofeikdaoknlaaDoor

/- Dates: the chapter's examples. -/
namespace Pl
theorem ex_months1 : monthsR 30 1 = (58, 0) := by
  have hp : partsP 30 = ⟨1900, 1, 31⟩ := parts_eq ⟨by decide, by decide, by decide⟩
  have hk : monK 30 1 = 22801 := by unfold monK; rw [hp]; decide
  have := months_c (day := 30) (n := 1) ⟨⟨by decide, by decide⟩, by decide, by decide⟩ (by rw [hk]; decide)
  rw [this, hk, hp]; decide
theorem ex_months2 : monthsR 0 (-1) = (0, 2) := by
  have hp : partsP 0 = ⟨1900, 1, 1⟩ := parts_eq ⟨by decide, by decide, by decide⟩
  have hk : monK 0 (-1) = 22799 := by unfold monK; rw [hp]; decide
  exact months_b (day := 0) (n := -1) ⟨⟨by decide, by decide⟩, by decide, by decide⟩ (by rw [hk]; decide)
theorem ex_format : formatR 46340 = [50, 48, 50, 54, 45, 49, 49, 45, 49, 54] := by
  have hp : partsP 46340 = ⟨2026, 11, 16⟩ := parts_eq ⟨by decide, by decide, by decide⟩
  rw [format_ok ⟨by decide, by decide⟩, hp]; decide
theorem ex_of1 : ofR 2026 11 16 = (46340, 0) := by decide
theorem ex_of2 : ofR 2000 2 29 = (36583, 0) := by decide
theorem ex_of3 : ofR 1900 2 29 = (0, 2) := by decide
theorem ex_p1 : parseR [50, 49, 57, 57, 45, 49, 50, 45, 51, 49] = (109572, 0) := by decide
theorem ex_p2 : parseR [50, 48, 50, 54, 45, 48, 50, 45, 51, 48] = (0, 2) := by decide
theorem ex_p3 : parseR [50, 48, 50, 54, 45, 50, 45, 51] = (0, 3) := by decide
end Pl

namespace Pl
open Go Ab
structure Charge where
  id : Int
  patron : Int
  item : Int
  day : Int
  kind : Int
  amount : Int
  paid : Int
  deriving Inhabited, DecidableEq
structure Cal where
  week : Int
  closed : List Int
structure Rule where
  r0 : Int
  r1 : Int
  r2 : Int
  r3 : Int
  r4 : Int
  fine : Int
  grace : Int
  maxFine : Int
  r8 : Int
  r9 : Int
  r10 : Int
  r11 : Int
  r12 : Int
def encCharge (c : Charge) : D := .agg [.int .i64 c.id, .int .i64 c.patron, .int .i64 c.item, .int .i64 c.day, .int .i64 c.kind, .int .i64 c.amount, .int .i64 c.paid]
def z0 : Charge := ⟨0, 0, 0, 0, 0, 0, 0⟩
def encCharges (l : List Charge) : D := .slice (encCharge z0) (l.map encCharge)
def encInts (l : List Int) : D := .slice (.int .i64 0) (l.map (D.int .i64))
def encCal (c : Cal) : D := .agg [.int .i64 c.week, encInts c.closed]
def encRule (r : Rule) : D := .agg [.int .i64 r.r0, .int .i64 r.r1, .int .i64 r.r2, .int .i64 r.r3, .int .i64 r.r4, .int .i64 r.fine, .int .i64 r.grace, .int .i64 r.maxFine, .int .i64 r.r8, .int .i64 r.r9, .int .i64 r.r10, .int .i64 r.r11, .int .i64 r.r12]
@[simp] theorem encCharge_cells (c : Charge) : (encCharge c).cells = [.int .i64 c.id, .int .i64 c.patron, .int .i64 c.item, .int .i64 c.day, .int .i64 c.kind, .int .i64 c.amount, .int .i64 c.paid] := rfl
theorem encCharge_eq (c : Charge) : encCharge c = .agg [.int .i64 c.id, .int .i64 c.patron, .int .i64 c.item, .int .i64 c.day, .int .i64 c.kind, .int .i64 c.amount, .int .i64 c.paid] := rfl
theorem encCharges_eq (l : List Charge) : encCharges l = .slice (encCharge z0) (l.map encCharge) := rfl
theorem encInts_eq (l : List Int) : encInts l = .slice (.int .i64 0) (l.map (D.int .i64)) := rfl
theorem encCal_eq (c : Cal) : encCal c = .agg [.int .i64 c.week, encInts c.closed] := rfl
theorem encRule_eq (r : Rule) : encRule r = .agg [.int .i64 r.r0, .int .i64 r.r1, .int .i64 r.r2, .int .i64 r.r3, .int .i64 r.r4, .int .i64 r.fine, .int .i64 r.grace, .int .i64 r.maxFine, .int .i64 r.r8, .int .i64 r.r9, .int .i64 r.r10, .int .i64 r.r11, .int .i64 r.r12] := rfl
def isDay (n : Int) : Bool := decide (0 ≤ n) && decide (n ≤ 109572)
def isID (n : Int) : Bool := decide (1 ≤ n) && decide (n ≤ 9999)
def wday (n : Int) : Int := if isDay n then n.tmod 7 else -1
def ruleOk (r : Rule) : Bool := decide (0 ≤ r.fine) && decide (r.fine ≤ 1000) && decide (0 ≤ r.grace) && decide (r.grace ≤ 30) && decide (0 ≤ r.maxFine) && decide (r.maxFine ≤ 100000000)
def owedF (p : Int) : Int → List Charge → Int
  | s, [] => s
  | s, c :: l => owedF p (if c.patron = p then IntKind.i64.wrap (s + IntKind.i64.wrap (c.amount - c.paid)) else s) l
def payStep (p r : Int) (c : Charge) : Int := if IntKind.i64.wrap (c.amount - c.paid) < r then IntKind.i64.wrap (c.amount - c.paid) else r
def payF (p : Int) : Int × List Charge → List Charge → Int × List Charge
  | (r, o), [] => (r, o)
  | (r, o), c :: l =>
    if c.patron = p then
      if IntKind.i64.wrap (c.paid + payStep p r c) < c.amount then payF p (IntKind.i64.wrap (r - payStep p r c), o ++ [{ c with paid := IntKind.i64.wrap (c.paid + payStep p r c) }]) l
      else payF p (IntKind.i64.wrap (r - payStep p r c), o) l
    else if c.paid < c.amount then payF p (r, o ++ [c]) l else payF p (r, o) l
def payR (l : List Charge) (p a : Int) : RetT :=
  if a < 1 ∨ 100000000 < a then .tup [encCharges [], .int .i64 0, .int .i64 1]
  else .tup [encCharges (payF p (a, []) l).2, .int .i64 (payF p (a, []) l).1, .int .i64 0]
theorem payR_bad {l : List Charge} {p a : Int} (h : a < 1 ∨ 100000000 < a) : payR l p a = .tup [encCharges [], .int .i64 0, .int .i64 1] := if_pos h
theorem payR_good {l : List Charge} {p a : Int} (h : 1 ≤ a ∧ a ≤ 100000000) : payR l p a = .tup [encCharges (payF p (a, []) l).2, .int .i64 (payF p (a, []) l).1, .int .i64 0] := if_neg (by omega)
def idxG (p : Int → Bool) : Unit → List Int → Int := fun _ _ => 0
def owedG (p : Int) : Int → List Charge → Int
  | s, [] => s
  | s, c :: l => owedG p (if c.patron = p then IntKind.i64.wrap (IntKind.i64.wrap (s + c.amount) - c.paid) else s) l
theorem owedG_eq (p : Int) : ∀ (l : List Charge) (s : Int), owedG p s l = owedF p s l
  | [], s => rfl
  | c :: l, s => by
    have e : IntKind.i64.wrap (IntKind.i64.wrap (s + c.amount) - c.paid) = IntKind.i64.wrap (s + IntKind.i64.wrap (c.amount - c.paid)) := by
      simp only [IntKind.wrap_i64]; omega
    rw [owedG, owedF, e]
    exact owedG_eq p l _
def idxF (p : Int → Bool) : Int → List Int → Int
  | _, [] => -1
  | i, x :: l => if p x then i else idxF p (i + 1) l
theorem idxF_any (p : Int → Bool) : ∀ (l : List Int) (i : Int), 0 ≤ i → decide (0 ≤ idxF p i l) = l.any p
  | [], i, _ => by simp [idxF]
  | x :: l, i, hi => by
    by_cases hp : p x = true
    · simp [idxF, hp, hi]
    · have hp' : p x = false := by simpa using hp
      simp only [idxF, List.any_cons, hp', Bool.false_eq_true, if_false, Bool.false_or]
      exact idxF_any p l (i + 1) (by omega)
def chkC (c : Charge) : Int :=
  if c.id < 1 ∨ 99999 < c.id ∨ c.patron < 1 ∨ 9999 < c.patron ∨ c.item < 1 ∨ 9999 < c.item ∨ isDay c.day = false then 2
  else if c.kind < 1 ∨ 3 < c.kind then 1
  else if c.amount < 1 ∨ 100000000 < c.amount ∨ c.paid < 0 ∨ c.amount ≤ c.paid then 2 else 0
section
variable {x : Charge}
theorem chk2a (h : (((((x.id < 1 ∨ 99999 < x.id) ∨ x.patron < 1) ∨ 9999 < x.patron) ∨ x.item < 1) ∨ 9999 < x.item) ∨ isDay x.day = false) : chkC x = 2 := if_pos (by simpa only [or_assoc] using h)
theorem chkn (h : (((((1 ≤ x.id ∧ x.id ≤ 99999) ∧ 1 ≤ x.patron) ∧ x.patron ≤ 9999) ∧ 1 ≤ x.item) ∧ x.item ≤ 9999) ∧ isDay x.day = true) : ¬ (x.id < 1 ∨ 99999 < x.id ∨ x.patron < 1 ∨ 9999 < x.patron ∨ x.item < 1 ∨ 9999 < x.item ∨ isDay x.day = false) := by
  obtain ⟨h1, h2⟩ := h
  rw [h2]
  simp
  omega
theorem chk1 (h : (((((1 ≤ x.id ∧ x.id ≤ 99999) ∧ 1 ≤ x.patron) ∧ x.patron ≤ 9999) ∧ 1 ≤ x.item) ∧ x.item ≤ 9999) ∧ isDay x.day = true) (h2 : x.kind < 1 ∨ 3 < x.kind) : chkC x = 1 := by
  unfold chkC; rw [if_neg (chkn h), if_pos h2]
theorem chk2b (h : (((((1 ≤ x.id ∧ x.id ≤ 99999) ∧ 1 ≤ x.patron) ∧ x.patron ≤ 9999) ∧ 1 ≤ x.item) ∧ x.item ≤ 9999) ∧ isDay x.day = true) (h2 : 1 ≤ x.kind ∧ x.kind ≤ 3) (h3 : ((x.amount < 1 ∨ 100000000 < x.amount) ∨ x.paid < 0) ∨ x.amount ≤ x.paid) : chkC x = 2 := by
  unfold chkC; rw [if_neg (chkn h), if_neg (by omega), if_pos (by omega)]
theorem chk0 (h : (((((1 ≤ x.id ∧ x.id ≤ 99999) ∧ 1 ≤ x.patron) ∧ x.patron ≤ 9999) ∧ 1 ≤ x.item) ∧ x.item ≤ 9999) ∧ isDay x.day = true) (h2 : 1 ≤ x.kind ∧ x.kind ≤ 3) (h3 : ((1 ≤ x.amount ∧ x.amount ≤ 100000000) ∧ 0 ≤ x.paid) ∧ x.paid < x.amount) : chkC x = 0 := by
  unfold chkC; rw [if_neg (chkn h), if_neg (by omega), if_neg (by omega)]
end
def lowId : Option Int → Int → Bool
  | none, _ => false
  | some p, i => decide (i ≤ p)
def rightF : Option Int → List Charge → Int
  | _, [] => 0
  | pr, c :: l => if lowId pr c.id = true then 7 else if chkC c ≠ 0 then chkC c else rightF (some c.id) l
def rightR (l : List Charge) : Int := if 128 < l.length then 13 else rightF none l
theorem rightR_ok {l : List Charge} (h : (l.length : Int) ≤ 128) : rightR l = rightF none l := if_neg (by omega)
theorem rightR_full {l : List Charge} (h : 128 < (l.length : Int)) : rightR l = 13 := if_pos (by omega)
def sameF : List Charge → List Charge → Bool := fun r l => decide (l = r)
section
variable {x : Charge}
theorem isID_t {n : Int} : isID n = true ↔ 1 ≤ n ∧ n ≤ 9999 := by simp [isID]
theorem isID_f {n : Int} : isID n = false ↔ n < 1 ∨ 9999 < n := by simp [isID]; omega
theorem chk2c (h : (((x.id < 1 ∨ 99999 < x.id) ∨ isID x.patron = false) ∨ isID x.item = false) ∨ isDay x.day = false) : chkC x = 2 := if_pos (by simp only [isID_f] at h; simpa only [or_assoc] using h)
theorem chkcv (h : (((1 ≤ x.id ∧ x.id ≤ 99999) ∧ isID x.patron = true) ∧ isID x.item = true) ∧ isDay x.day = true) : (((((1 ≤ x.id ∧ x.id ≤ 99999) ∧ 1 ≤ x.patron) ∧ x.patron ≤ 9999) ∧ 1 ≤ x.item) ∧ x.item ≤ 9999) ∧ isDay x.day = true := by
  simp only [isID_t] at h; simpa only [and_assoc] using h
theorem chk1c (h : (((1 ≤ x.id ∧ x.id ≤ 99999) ∧ isID x.patron = true) ∧ isID x.item = true) ∧ isDay x.day = true) (h2 : x.kind < 1 ∨ 3 < x.kind) : chkC x = 1 := chk1 (chkcv h) h2
theorem chk2d (h : (((1 ≤ x.id ∧ x.id ≤ 99999) ∧ isID x.patron = true) ∧ isID x.item = true) ∧ isDay x.day = true) (h2 : 1 ≤ x.kind ∧ x.kind ≤ 3) (h3 : ((x.amount < 1 ∨ 100000000 < x.amount) ∨ x.paid < 0) ∨ x.amount ≤ x.paid) : chkC x = 2 := chk2b (chkcv h) h2 h3
theorem chk0c (h : (((1 ≤ x.id ∧ x.id ≤ 99999) ∧ isID x.patron = true) ∧ isID x.item = true) ∧ isDay x.day = true) (h2 : 1 ≤ x.kind ∧ x.kind ≤ 3) (h3 : ((1 ≤ x.amount ∧ x.amount ≤ 100000000) ∧ 0 ≤ x.paid) ∧ x.paid < x.amount) : chkC x = 0 := chk0 (chkcv h) h2 h3
end
def remF (p : Charge → Bool) : List Charge × Int × Int → List Charge → List Charge × Int × Int
  | (o, q, n), [] => (o, q, n)
  | (o, q, n), c :: l => if p c = true then remF p (o, IntKind.i64.wrap (q + c.paid), IntKind.i64.wrap (n + 1)) l else remF p (o ++ [c], q, n) l
def remR (l : List Charge) (p : Charge → Bool) : RetT := .tup [encCharges (remF p ([], 0, 0) l).1, .int .i64 (remF p ([], 0, 0) l).2.1, .int .i64 (remF p ([], 0, 0) l).2.2]
def refP (p i k : Int) (c : Charge) : Bool := (c.patron == p && c.item == i) && (k == 0 || c.kind == k)
def waiveR (l : List Charge) (i : Int) : RetT :=
  if (remF (fun c => c.id == i) ([], 0, 0) l).2.2 = 0 then .tup [encCharges [], .int .i64 0, .int .i64 9]
  else .tup [encCharges (remF (fun c => c.id == i) ([], 0, 0) l).1, .int .i64 (remF (fun c => c.id == i) ([], 0, 0) l).2.1, .int .i64 0]
theorem waiveR_none {l : List Charge} {i : Int} (h : (remF (fun c => c.id == i) ([], 0, 0) l).2.2 = 0) : waiveR l i = .tup [encCharges [], .int .i64 0, .int .i64 9] := if_pos h
theorem waiveR_some {l : List Charge} {i : Int} (h : ¬ (remF (fun c => c.id == i) ([], 0, 0) l).2.2 = 0) : waiveR l i = .tup [encCharges (remF (fun c => c.id == i) ([], 0, 0) l).1, .int .i64 (remF (fun c => c.id == i) ([], 0, 0) l).2.1, .int .i64 0] := if_neg h
def refundR (l : List Charge) (p i k : Int) : RetT := .tup [encCharges (remF (refP p i k) ([], 0, 0) l).1, .int .i64 (remF (refP p i k) ([], 0, 0) l).2.1]
def wvF (i : Int) : List Charge × Int → List Charge → List Charge × Int
  | (o, q), [] => (o, q)
  | (o, q), c :: l => if c.id = i then wvF i (o, c.paid) l else wvF i (o ++ [c], q) l
def wvR (l : List Charge) (i : Int) : RetT :=
  if (wvF i ([], -1) l).2 < 0 then .tup [encCharges [], .int .i64 0, .int .i64 9] else .tup [encCharges (wvF i ([], -1) l).1, .int .i64 (wvF i ([], -1) l).2, .int .i64 0]
theorem wvR_none {l : List Charge} {i : Int} (h : (wvF i ([], -1) l).2 < 0) : wvR l i = .tup [encCharges [], .int .i64 0, .int .i64 9] := if_pos h
theorem wvR_some {l : List Charge} {i : Int} (h : 0 ≤ (wvF i ([], -1) l).2) : wvR l i = .tup [encCharges (wvF i ([], -1) l).1, .int .i64 (wvF i ([], -1) l).2, .int .i64 0] := if_neg (by omega)
def rfF (p i k : Int) : List Charge × Int → List Charge → List Charge × Int
  | (o, q), [] => (o, q)
  | (o, q), c :: l => if refP p i k c = true then rfF p i k (o, IntKind.i64.wrap (q + c.paid)) l else rfF p i k (o ++ [c], q) l
def rfR (l : List Charge) (p i k : Int) : RetT := .tup [encCharges (rfF p i k ([], 0) l).1, .int .i64 (rfF p i k ([], 0) l).2]
def ascF : Option Int → List Int → Int
  | _, [] => 0
  | pr, x :: l => if lowId pr x = true then 7 else ascF (some x) l
def calR (c : Cal) : Int := if c.week < 0 ∨ 127 ≤ c.week then 1 else if 64 < (c.closed.length : Int) then 13 else if c.closed.any (fun n => !isDay n) = true then 2 else ascF none c.closed
theorem cal_len {c : Cal} (h : D.Ok (encCal c)) : c.closed.length ≤ 9223372036854775807 := by
  have := (Ok_slice (Ok_agg h (encInts c.closed) (by simp))).1
  simpa using this
section
variable {c : Cal}
theorem cal1 (h : c.week < 0 ∨ 127 ≤ c.week) : calR c = 1 := if_pos h
theorem cal13 (h : 0 ≤ c.week ∧ c.week < 127) (h2 : 64 < (c.closed.length : Int)) : calR c = 13 := by unfold calR; rw [if_neg (by omega), if_pos h2]
theorem cal2 (h : 0 ≤ c.week ∧ c.week < 127) (h2 : (c.closed.length : Int) ≤ 64) (h3 : ∃ x ∈ c.closed, isDay x = false) : calR c = 2 := by
  unfold calR; rw [if_neg (by omega), if_neg (by omega), if_pos (by simpa using h3)]
theorem calA (h : 0 ≤ c.week ∧ c.week < 127) (h2 : (c.closed.length : Int) ≤ 64) (h3 : ∀ x ∈ c.closed, isDay x = true) : calR c = ascF none c.closed := by
  unfold calR; rw [if_neg (by omega), if_neg (by omega), if_neg (by simpa using h3)]
end
def fst7 (w : Int) : Int := (IntKind.i64.wrap (IntKind.i64.wrap (w - wday 0) + 7)).tmod 7
def upToW (d w : Int) : Int := if d < fst7 w then 0 else IntKind.i64.wrap (IntKind.i64.wrap ((IntKind.i64.wrap (d - fst7 w)).tdiv 7) + 1)
theorem upToW_lt {d w : Int} (h : d < fst7 w) : upToW d w = 0 := if_pos h
theorem upToW_ge {d w : Int} (h : fst7 w ≤ d) : upToW d w = IntKind.i64.wrap (IntKind.i64.wrap ((IntKind.i64.wrap (d - fst7 w)).tdiv 7) + 1) := if_neg (by omega)
def wkB (w : Int) (i : Nat) : Bool := bits BinOp.and IntKind.i64 (w.fdiv (2 ^ min i IntKind.i64.bits)) 1 == 0
def weekL (w : Int) : List D := [.bool (wkB w 0), .bool (wkB w 1), .bool (wkB w 2), .bool (wkB w 3), .bool (wkB w 4), .bool (wkB w 5), .bool (wkB w 6)]
@[simp] theorem weekL_length (w : Int) : (weekL w).length = 7 := rfl
@[simp] theorem weekL_getD (w : Int) (i : Nat) : (weekL w)[i]?.getD (D.bool false) = D.bool (decide (i < 7) && wkB w i) := by
  by_cases h : i < 7
  · have : i = 0 ∨ i = 1 ∨ i = 2 ∨ i = 3 ∨ i = 4 ∨ i = 5 ∨ i = 6 := by omega
    rcases this with rfl | rfl | rfl | rfl | rfl | rfl | rfl <;> simp [weekL]
  · rw [List.getElem?_eq_none (by simp; omega)]
    simp [h]
@[simp] theorem weekL_ld (w : Int) : List.take 7 (List.map (C.dat ∘ C.d) (weekL w)) = weekL w := rfl
def cnt7 (w lo hi : Int) : Nat → Int
  | 0 => 0
  | k + 1 => if wkB w k = true then IntKind.i64.wrap (cnt7 w lo hi k + IntKind.i64.wrap (upToW hi k - upToW (IntKind.i64.wrap (lo - 1)) k)) else cnt7 w lo hi k
@[simp] theorem cnt7_zero {w lo hi : Int} : cnt7 w lo hi 0 = 0 := rfl
theorem wday_rng {d : Int} (h0 : 0 ≤ d) (h1 : d ≤ 109572) : 0 ≤ wday d ∧ wday d < 7 := by
  have e : wday d = d % 7 := by
    unfold wday isDay
    rw [if_pos (by simp [h0, h1]), Int.tmod_eq_emod_of_nonneg h0]
  rw [e]; omega
def cntIn (w lo hi d : Int) : Bool := (decide (lo ≤ d) && decide (d ≤ hi)) && (decide (wday d < 7) && wkB w (wday d).toNat)
def cntG (w lo hi : Int) : Int → List Int → Int
  | n, [] => n
  | n, d :: l => if cntIn w lo hi d = true then cntG w lo hi (IntKind.i64.wrap (n - 1)) l else cntG w lo hi n l
def countR (c : Cal) (f t : Int) : Int :=
  if (if 109572 < t then 109572 else t) < (if f < 0 then 0 else f) then 0
  else cntG c.week (if f < 0 then 0 else f) (if 109572 < t then 109572 else t) (cnt7 c.week (if f < 0 then 0 else f) (if 109572 < t then 109572 else t) 7) c.closed
theorem countR_ge {c : Cal} {f t lo hi : Int} (h1 : (if f < 0 then 0 else f) = lo) (h2 : (if 109572 < t then 109572 else t) = hi) (h : lo ≤ hi) : countR c f t = cntG c.week lo hi (cnt7 c.week lo hi 7) c.closed := by
  unfold countR; rw [h1, h2, if_neg (by omega)]
def lateR (r : Rule) (c : Cal) (d b : Int) : Int :=
  if (¬ calR c = 0 ∨ isDay d = false) ∨ isDay b = false then 0
  else if countR c (IntKind.i64.wrap (d + 1)) b ≤ r.grace then 0
  else if r.maxFine < IntKind.i64.wrap (countR c (IntKind.i64.wrap (d + 1)) b * r.fine) then r.maxFine else IntKind.i64.wrap (countR c (IntKind.i64.wrap (d + 1)) b * r.fine)
section
variable {r : Rule} {c : Cal} {d b : Int}
theorem lateR_bad (h : (¬ calR c = 0 ∨ isDay d = false) ∨ isDay b = false) : lateR r c d b = 0 := if_pos h
theorem lateN (h : (calR c = 0 ∧ isDay d = true) ∧ isDay b = true) : ¬ ((¬ calR c = 0 ∨ isDay d = false) ∨ isDay b = false) := by simp [h.1.1, h.1.2, h.2]
theorem lateR_gr (h : (calR c = 0 ∧ isDay d = true) ∧ isDay b = true) (h2 : countR c (IntKind.i64.wrap (d + 1)) b ≤ r.grace) : lateR r c d b = 0 := by
  unfold lateR; rw [if_neg (lateN h), if_pos h2]
theorem lateR_ok (h : (calR c = 0 ∧ isDay d = true) ∧ isDay b = true) (h2 : r.grace < countR c (IntKind.i64.wrap (d + 1)) b) :
    lateR r c d b = if r.maxFine < IntKind.i64.wrap (countR c (IntKind.i64.wrap (d + 1)) b * r.fine) then r.maxFine else IntKind.i64.wrap (countR c (IntKind.i64.wrap (d + 1)) b * r.fine) := by
  unfold lateR; rw [if_neg (lateN h), if_neg (by omega)]
end
def r0 : Rule := ⟨0, 0, 0, 0, 0, 20, 1, 100, 0, 0, 0, 0, 0⟩
def c0 : Cal := ⟨0, []⟩
def l0 : List Charge := [⟨1, 5, 3, 9, 1, 300, 100⟩, ⟨2, 5, 4, 9, 3, 50, 0⟩]
def payO (l : List Charge) (p a : Int) : List Charge := if a < 1 ∨ 100000000 < a then [] else (payF p (a, []) l).2
def payX (l : List Charge) (p a : Int) : Int := if a < 1 ∨ 100000000 < a then 0 else (payF p (a, []) l).1
def payE (_ : List Charge) (_ a : Int) : Int := if a < 1 ∨ 100000000 < a then 1 else 0
theorem payR_tup (l : List Charge) (p a : Int) : payR l p a = .tup [encCharges (payO l p a), .int .i64 (payX l p a), .int .i64 (payE l p a)] := by
  unfold payR payO payX payE
  split <;> rfl
theorem rightF_cons {pr : Option Int} {c : Charge} {l : List Charge} (h : rightF pr (c :: l) = 0) : lowId pr c.id = false ∧ chkC c = 0 ∧ rightF (some c.id) l = 0 := by
  simp only [rightF] at h
  split at h
  · exact absurd h (by decide)
  · rename_i h1
    split at h
    · rename_i h2; exact absurd h h2
    · rename_i h2
      exact ⟨by simpa using h1, by simpa using h2, h⟩
theorem rightF_gt : ∀ (l : List Charge) (m : Int), rightF (some m) l = 0 → ∀ c ∈ l, m < c.id
  | [], _, _, c, hc => by simp at hc
  | x :: l, m, h, c, hc => by
    obtain ⟨h1, _, h3⟩ := rightF_cons h
    have hx : m < x.id := by simpa [lowId] using h1
    rcases List.mem_cons.1 hc with rfl | hc
    · exact hx
    · have := rightF_gt l x.id h3 c hc; omega
theorem chk0_facts {x : Charge} (h : chkC x = 0) : 1 ≤ x.id ∧ x.id ≤ 99999 ∧ 1 ≤ x.amount ∧ x.amount ≤ 100000000 ∧ 0 ≤ x.paid ∧ x.paid < x.amount := by
  unfold chkC at h
  split at h
  · exact absurd h (by decide)
  · split at h
    · exact absurd h (by decide)
    · split at h
      · exact absurd h (by decide)
      · rename_i h1 h2 h3
        have : ¬ (x.id < 1 ∨ 99999 < x.id) := fun hh => h1 (by rcases hh with hh | hh <;> simp [hh])
        omega
theorem rem_none {i : Int} : ∀ (l : List Charge) (o : List Charge) (q n : Int), (∀ c ∈ l, c.id ≠ i) → remF (fun c => c.id == i) (o, q, n) l = (o ++ l, q, n)
  | [], o, q, n, _ => by simp [remF]
  | c :: l, o, q, n, h => by
    have hc : ¬ (c.id = i) := h c (by simp)
    simp only [remF, beq_iff_eq, hc, if_false]
    rw [rem_none l _ q n (fun c' h' => h c' (by simp [h']))]; simp
theorem wv_none {i : Int} : ∀ (l : List Charge) (o : List Charge) (q : Int), (∀ c ∈ l, c.id ≠ i) → wvF i (o, q) l = (o ++ l, q)
  | [], o, q, _ => by simp [wvF]
  | c :: l, o, q, h => by
    have hc : ¬ (c.id = i) := h c (by simp)
    simp only [wvF, hc, if_false]
    rw [wv_none l _ q (fun c' h' => h c' (by simp [h']))]; simp
theorem rem_wv {i : Int} : ∀ (l : List Charge) (pr : Option Int) (o : List Charge), rightF pr l = 0 →
    (∃ x, remF (fun c => c.id == i) (o, 0, 0) l = (x, 0, 0) ∧ wvF i (o, -1) l = (x, -1)) ∨ ∃ x pd, 0 ≤ pd ∧ remF (fun c => c.id == i) (o, 0, 0) l = (x, pd, 1) ∧ wvF i (o, -1) l = (x, pd)
  | [], _, o, _ => .inl ⟨o, by simp [remF], by simp [wvF]⟩
  | c :: l, pr, o, h => by
    obtain ⟨_, h2, h3⟩ := rightF_cons h
    have hf := chk0_facts h2
    by_cases hc : c.id = i
    · right
      have hno : ∀ c' ∈ l, c'.id ≠ i := fun c' hc' => by have := rightF_gt l c.id h3 c' hc'; omega
      have e1 : IntKind.i64.wrap (0 + c.paid) = c.paid := by rw [wrap_i64] <;> omega
      have e2 : IntKind.i64.wrap (0 + 1) = 1 := by rw [wrap_i64] <;> omega
      refine ⟨o ++ l, c.paid, hf.2.2.2.2.1, ?_, ?_⟩
      · simp only [remF, beq_iff_eq, hc, if_true, e1, e2]
        exact rem_none l o _ _ hno
      · simp only [wvF, hc, if_true]
        exact wv_none l o _ hno
    · simp only [remF, wvF, beq_iff_eq, hc, if_false]
      exact rem_wv l (some c.id) (o ++ [c]) h3
theorem wvR_eq {l : List Charge} {i : Int} (h : rightR l = 0) : wvR l i = waiveR l i := by
  have h' : rightF none l = 0 := by
    unfold rightR at h
    split at h
    · exact absurd h (by decide)
    · exact h
  rcases rem_wv (i := i) l none [] h' with ⟨x, h1, h2⟩ | ⟨x, pd, h0, h1, h2⟩
  · unfold wvR waiveR; rw [h1, h2]; simp
  · unfold wvR waiveR; rw [h1, h2]; simp; omega
def wO (l : List Charge) (i : Int) : List Charge := if (remF (fun c => c.id == i) ([], 0, 0) l).2.2 = 0 then [] else (remF (fun c => c.id == i) ([], 0, 0) l).1
def wX (l : List Charge) (i : Int) : Int := if (remF (fun c => c.id == i) ([], 0, 0) l).2.2 = 0 then 0 else (remF (fun c => c.id == i) ([], 0, 0) l).2.1
def wE (l : List Charge) (i : Int) : Int := if (remF (fun c => c.id == i) ([], 0, 0) l).2.2 = 0 then 9 else 0
theorem waiveR_tup (l : List Charge) (i : Int) : waiveR l i = .tup [encCharges (wO l i), .int .i64 (wX l i), .int .i64 (wE l i)] := by
  unfold waiveR wO wX wE; split <;> rfl
theorem rf_rem {p i k : Int} : ∀ (l : List Charge) (o : List Charge) (q n : Int), (rfF p i k (o, q) l).1 = (remF (refP p i k) (o, q, n) l).1 ∧ (rfF p i k (o, q) l).2 = (remF (refP p i k) (o, q, n) l).2.1
  | [], o, q, n => ⟨rfl, rfl⟩
  | c :: l, o, q, n => by
    simp only [rfF, remF]
    split
    · exact rf_rem l o _ _
    · exact rf_rem l _ q n
def addR (l : List Charge) (c : Charge) : RetT := if rightR (l ++ [c]) = 0 then .tup [encCharges (l ++ [c]), .int .i64 0] else .tup [encCharges [], .int .i64 (rightR (l ++ [c]))]
theorem addR_bad {l : List Charge} {c : Charge} (h : ¬ rightR (l ++ [c]) = 0) : addR l c = .tup [encCharges [], .int .i64 (rightR (l ++ [c]))] := if_neg h
theorem addR_ok {l : List Charge} {c : Charge} (h : rightR (l ++ [c]) = 0) : addR l c = .tup [encCharges (l ++ [c]), .int .i64 0] := if_pos h
def copyF (o l : List Charge) : List Charge := o ++ l
def addO (l : List Charge) (c : Charge) : List Charge := if rightR (l ++ [c]) = 0 then l ++ [c] else []
theorem addR_tup (l : List Charge) (c : Charge) : addR l c = .tup [encCharges (addO l c), .int .i64 (rightR (l ++ [c]))] := by
  unfold addR addO
  split
  · rename_i h; rw [h]
  · rfl
def hv : Nat → Int → Int
  | 0, w => w
  | k + 1, w => IntKind.i64.wrap ((hv k w).tdiv 2)
@[simp] theorem hv_zero {w : Int} : hv 0 w = w := rfl
def anyF (d : Int) : Unit → List Int → Bool
  | _, [] => true
  | _, x :: l => if x = d then false else anyF d () l
def openR (c : Cal) (d : Int) : Bool := if d < 0 ∨ 109572 < d then false else if (hv (wday d).toNat c.week).tmod 2 = 1 then false else anyF d () c.closed
section
variable {c : Cal} {d : Int}
theorem openR_out (h : d < 0 ∨ 109572 < d) : openR c d = false := if_pos h
theorem openR_week (h : 0 ≤ d ∧ d ≤ 109572) (h2 : (hv (wday d).toNat c.week).tmod 2 = 1) : openR c d = false := by unfold openR; rw [if_neg (by omega), if_pos h2]
theorem openR_in (h : 0 ≤ d ∧ d ≤ 109572) (h2 : ¬ (hv (wday d).toNat c.week).tmod 2 = 1) : openR c d = anyF d () c.closed := by unfold openR; rw [if_neg (by omega), if_neg h2]
end
def cntN (c : Cal) : Nat → Int → Int → Int
  | 0, _, n => n
  | k + 1, d, n => cntN c k (d + 1) (if openR c d = true then IntKind.i64.wrap (n + 1) else n)
def countD (c : Cal) (f t : Int) : Int := cntN c ((if 109572 < t then 109572 else t) + 1 - (if f < 0 then 0 else f)).toNat (if f < 0 then 0 else f) 0
theorem countD_eq {c : Cal} {f t lo hi : Int} (h1 : (if f < 0 then 0 else f) = lo) (h2 : (if 109572 < t then 109572 else t) = hi) : countD c f t = cntN c (hi + 1 - lo).toNat lo 0 := by
  unfold countD; rw [h1, h2]
def badF : Unit → List Int → Bool
  | _, [] => false
  | _, x :: l => if isDay x = false then true else badF () l
theorem badF_any : ∀ l : List Int, badF () l = l.any (fun n => !isDay n)
  | [] => rfl
  | x :: l => by
    simp only [badF, List.any_cons, badF_any l]
    cases h : isDay x <;> simp
theorem asc_tail : ∀ l : List Int, ascF none l = ascF l.head? l.tail
  | [] => rfl
  | x :: l => by simp [ascF, lowId]
theorem cal2b {c : Cal} (h : 0 ≤ c.week ∧ c.week < 127) (h2 : (c.closed.length : Int) ≤ 64) (h3 : badF () c.closed = true) : calR c = 2 := by
  rw [badF_any] at h3
  unfold calR; rw [if_neg (by omega), if_neg (by omega), if_pos h3]
theorem calAb {c : Cal} (h : 0 ≤ c.week ∧ c.week < 127) (h2 : (c.closed.length : Int) ≤ 64) (h3 : badF () c.closed = false) : calR c = ascF c.closed.head? c.closed.tail := by
  rw [badF_any] at h3
  unfold calR; rw [if_neg (by omega), if_neg (by omega), if_neg (by simp [h3]), asc_tail]
end Pl

/- Calendars: the count by weeks is the count by days. No conditions beyond those at each theorem. -/
namespace Pl
open Go Ab
set_option linter.unusedVariables false
set_option linter.unusedSimpArgs false

def b2i (b : Bool) : Int := if b = true then 1 else 0
theorem b2i_rng (b : Bool) : 0 ≤ b2i b ∧ b2i b ≤ 1 := by cases b <;> simp [b2i]
/-- how many days of [d, d+k) satisfy p -/
def cdays (p : Int → Bool) (d : Int) : Nat → Int
  | 0 => 0
  | k + 1 => cdays p d k + b2i (p (d + k))
theorem cdays_rng (p : Int → Bool) (d : Int) : ∀ k : Nat, 0 ≤ cdays p d k ∧ cdays p d k ≤ k
  | 0 => by simp [cdays]
  | k + 1 => by have := cdays_rng p d k; have := b2i_rng (p (d + k)); simp only [cdays]; omega
theorem cdays_cons (p : Int → Bool) (d : Int) : ∀ k : Nat, cdays p d (k + 1) = b2i (p d) + cdays p (d + 1) k
  | 0 => by simp [cdays]
  | k + 1 => by
    have h := cdays_cons p d k
    rw [cdays, h]
    simp only [cdays]
    have e : d + ((k + 1 : Nat) : Int) = d + 1 + (k : Int) := by omega
    rw [e]; omega
theorem cdays_add (p : Int → Bool) (d : Int) (m : Nat) : ∀ k : Nat, cdays p d (m + k) = cdays p d m + cdays p (d + m) k
  | 0 => by simp [cdays]
  | k + 1 => by
    rw [← Nat.add_assoc]; simp only [cdays]; rw [cdays_add p d m k]
    have e : d + ((m + k : Nat) : Int) = d + m + (k : Int) := by omega
    rw [e]; omega
theorem cdays_congr {p q : Int → Bool} {d : Int} : ∀ k : Nat, (∀ i : Nat, i < k → p (d + i) = q (d + i)) → cdays p d k = cdays q d k
  | 0, _ => rfl
  | k + 1, h => by simp only [cdays]; rw [cdays_congr k (fun i hi => h i (by omega)), h k (by omega)]

theorem cntN_eq (c : Cal) : ∀ (k : Nat) (d n : Int), 0 ≤ n → n + k ≤ 1000000 → cntN c k d n = n + cdays (openR c) d k
  | 0, d, n, _, _ => by simp [cntN, cdays]
  | k + 1, d, n, h0, h1 => by
    rw [cntN, cdays_cons]
    have e : IntKind.i64.wrap (n + 1) = n + 1 := wrap_i64 (by omega) (by omega)
    by_cases ho : openR c d = true
    · rw [if_pos ho, e, cntN_eq c k _ _ (by omega) (by omega)]; simp [b2i, ho]; omega
    · rw [if_neg ho, cntN_eq c k _ _ (by omega) (by omega)]; simp [b2i, ho]

def lo0 (f : Int) : Int := if f < 0 then 0 else f
def hi0 (t : Int) : Int := if 109572 < t then 109572 else t
theorem lo0_rng (f : Int) : 0 ≤ lo0 f ∧ f ≤ lo0 f := by unfold lo0; split <;> omega
theorem hi0_rng (t : Int) : hi0 t ≤ 109572 ∧ hi0 t ≤ t := by unfold hi0; split <;> omega
/-- the open days from f to t -/
def cnt (c : Cal) (f t : Int) : Int := cdays (openR c) (lo0 f) (hi0 t + 1 - lo0 f).toNat
theorem countD_cnt (c : Cal) (f t : Int) : countD c f t = cnt c f t := by
  have h1 := lo0_rng f; have h2 := hi0_rng t
  have e : countD c f t = cntN c (hi0 t + 1 - lo0 f).toNat (lo0 f) 0 := rfl
  rw [e, cntN_eq c _ _ _ (by omega) (by omega), Int.zero_add]; rfl

theorem wk_hv : ∀ (n : Fin 127) (k : Fin 7), wkB (n.val : Int) k.val = !(decide ((hv k.val (n.val : Int)).tmod 2 = 1)) := by decide +kernel
theorem wkB_eq {w : Int} (h0 : 0 ≤ w) (h1 : w < 127) {k : Nat} (hk : k < 7) : wkB w k = !(decide ((hv k w).tmod 2 = 1)) := by
  have := wk_hv ⟨w.toNat, by omega⟩ ⟨k, hk⟩
  have e : ((w.toNat : Nat) : Int) = w := Int.toNat_of_nonneg h0
  simpa only [e] using this
theorem wday_eq {d : Int} (h0 : 0 ≤ d) (h1 : d ≤ 109572) : wday d = d % 7 := by
  unfold wday isDay
  rw [if_pos (by simp [h0, h1]), Int.tmod_eq_emod_of_nonneg h0]
theorem anyF_eq (d : Int) : ∀ l : List Int, anyF d () l = !(decide (d ∈ l))
  | [] => by simp [anyF]
  | x :: l => by
    by_cases h : x = d
    · subst h; simp [anyF]
    · have h' : ¬ d = x := fun e => h e.symm
      simp [anyF, h, h', anyF_eq d l]
/-- the day of the week is open -/
def wkO (c : Cal) (d : Int) : Bool := wkB c.week (d % 7).toNat
theorem calR_facts {c : Cal} (h : calR c = 0) : 0 ≤ c.week ∧ c.week < 127 ∧ c.closed.length ≤ 64 ∧ (∀ x ∈ c.closed, 0 ≤ x ∧ x ≤ 109572) ∧ ascF none c.closed = 0 := by
  unfold calR at h
  split at h
  · exact absurd h (by decide)
  · split at h
    · exact absurd h (by decide)
    · split at h
      · exact absurd h (by decide)
      · rename_i h1 h2 h3
        refine ⟨by omega, by omega, by omega, fun x hx => ?_, h⟩
        simp only [List.any_eq_true, not_exists, not_and] at h3
        have := h3 x hx
        simp [isDay] at this
        exact this
theorem openR_eq {c : Cal} (h : calR c = 0) {d : Int} (h0 : 0 ≤ d) (h1 : d ≤ 109572) : openR c d = (wkO c d && !(decide (d ∈ c.closed))) := by
  obtain ⟨a1, a2, _⟩ := calR_facts h
  unfold openR
  rw [if_neg (by omega), wday_eq h0 h1, anyF_eq]
  unfold wkO
  rw [wkB_eq a1 a2 (by omega)]
  by_cases hh : (hv (d % 7).toNat c.week).tmod 2 = 1
  · simp [hh]
  · simp [hh]
theorem openR_day {c : Cal} {d : Int} (h : openR c d = true) : 0 ≤ d ∧ d ≤ 109572 := by
  unfold openR at h
  split at h
  · cases h
  · omega
/-- ascending lists have no member twice -/
theorem ascF_gt : ∀ (l : List Int) (m : Int), ascF (some m) l = 0 → ∀ x ∈ l, m < x
  | [], _, _, x, hx => by simp at hx
  | y :: l, m, h, x, hx => by
    simp only [ascF] at h
    split at h
    · exact absurd h (by decide)
    · rename_i h1
      have hy : m < y := by simpa [lowId] using h1
      rcases List.mem_cons.1 hx with rfl | hx
      · exact hy
      · have := ascF_gt l y h x hx; omega
theorem ascF_nodup : ∀ (l : List Int) (p : Option Int), ascF p l = 0 → l.Nodup
  | [], _, _ => List.nodup_nil
  | y :: l, p, h => by
    simp only [ascF] at h
    split at h
    · exact absurd h (by decide)
    · refine List.nodup_cons.2 ⟨fun hy => ?_, ascF_nodup l _ h⟩
      have := ascF_gt l y h y hy; omega

/-- days from 0 to a day with a weekday, without wrapping -/
def upz (d k : Int) : Int := if d < k then 0 else (d - k) / 7 + 1
theorem fst7_eq {k : Int} (h0 : 0 ≤ k) (h1 : k < 7) : fst7 k = k := by
  have e0 : wday 0 = 0 := by decide
  unfold fst7
  rw [e0]
  rw [wrap_i64 (n := k - 0) (by omega) (by omega), wrap_i64 (by omega) (by omega), Int.tmod_eq_emod_of_nonneg (by omega)]
  omega
theorem upToW_eq {d k : Int} (h0 : 0 ≤ k) (h1 : k < 7) (hd : -1 ≤ d) (hd2 : d ≤ 109572) : upToW d k = upz d k := by
  unfold upToW upz
  rw [fst7_eq h0 h1]
  by_cases h : d < k
  · rw [if_pos h, if_pos h]
  · rw [if_neg h, if_neg h]
    rw [wrap_i64 (n := d - k) (by omega) (by omega), Int.tdiv_eq_ediv_of_nonneg (by omega), wrap_i64 (n := (d - k) / 7) (by omega) (by omega), wrap_i64 (by omega) (by omega)]
theorem upz_step {d k : Int} (h0 : 0 ≤ k) (h1 : k < 7) (hd : -1 ≤ d) : upz (d + 1) k = upz d k + (if (d + 1) % 7 = k then 1 else 0) := by
  unfold upz
  split <;> split <;> split <;> omega
/-- the count of weekdays below k, without wrapping -/
def c7 (w lo hi : Int) : Nat → Int
  | 0 => 0
  | k + 1 => c7 w lo hi k + b2i (wkB w k) * (upz hi k - upz (lo - 1) k)
theorem upz_rng {lo hi k : Int} (h0 : 0 ≤ k) (h1 : k < 7) (hl : -1 ≤ lo) (hh : lo ≤ hi) : upz lo k ≤ upz hi k ∧ upz hi k - upz lo k ≤ hi - lo := by
  unfold upz; split <;> split <;> omega
theorem c7_rng {w lo hi : Int} (hl : 0 ≤ lo) (hh : lo - 1 ≤ hi) : ∀ k : Nat, k ≤ 7 → 0 ≤ c7 w lo hi k ∧ c7 w lo hi k ≤ k * (hi + 1 - lo)
  | 0, _ => by simp [c7]
  | k + 1, hk => by
    have := c7_rng (w := w) hl hh k (by omega)
    have := upz_rng (lo := lo - 1) (hi := hi) (k := k) (by omega) (by omega) (by omega) hh
    have e : ((k + 1 : Nat) : Int) * (hi + 1 - lo) = k * (hi + 1 - lo) + (hi + 1 - lo) := by
      rw [Int.natCast_add, Int.add_mul]; simp
    simp only [c7]
    rw [e]
    unfold b2i
    split <;> omega
theorem cnt7_eq {w lo hi : Int} (hl : 0 ≤ lo) (hh : lo - 1 ≤ hi) (hh2 : hi ≤ 109572) : ∀ k : Nat, k ≤ 7 → cnt7 w lo hi k = c7 w lo hi k
  | 0, _ => rfl
  | k + 1, hk => by
    have hr := c7_rng (w := w) hl hh k (by omega)
    have hu := upz_rng (lo := lo - 1) (hi := hi) (k := k) (by omega) (by omega) (by omega) hh
    have hm : (k : Int) * (hi + 1 - lo) ≤ 7 * (hi + 1 - lo) := Int.mul_le_mul_of_nonneg_right (by omega) (by omega)
    simp only [cnt7, c7]
    rw [cnt7_eq hl hh hh2 k (by omega), wrap_i64 (n := lo - 1) (by omega) (by omega), upToW_eq (by omega) (by omega) (by omega) hh2, upToW_eq (by omega) (by omega) (by omega) (by omega)]
    unfold b2i
    split
    · rw [wrap_i64 (n := upz hi k - upz (lo - 1) k) (by omega) (by omega), wrap_i64 (by omega) (by omega)]; omega
    · omega
theorem c7_step {w lo hi : Int} (hh : -1 ≤ hi) : ∀ k : Nat, k ≤ 7 → c7 w lo (hi + 1) k = c7 w lo hi k + (if (hi + 1) % 7 < k then b2i (wkB w ((hi + 1) % 7).toNat) else 0)
  | 0, _ => by
    simp only [c7]
    rw [if_neg (by omega)]; rfl
  | k + 1, hk => by
    simp only [c7]
    rw [c7_step hh k (by omega), upz_step (by omega) (by omega) hh]
    by_cases he : (hi + 1) % 7 = (k : Int)
    · rw [he, if_pos rfl, if_neg (by omega), if_pos (by omega)]
      have : ((k : Int)).toNat = k := by omega
      rw [this]
      unfold b2i; split <;> omega
    · rw [if_neg he]
      by_cases h2 : (hi + 1) % 7 < (k : Int)
      · rw [if_pos h2, if_pos (by omega)]; simp; omega
      · rw [if_neg h2, if_neg (by omega)]; simp
/-- closed days between lo and hi that would be open -/
def ccl (w lo hi : Int) : List Int → Int
  | [] => 0
  | d :: l => b2i (decide (lo ≤ d) && decide (d ≤ hi) && wkB w (d % 7).toNat) + ccl w lo hi l
theorem ccl_rng (w lo hi : Int) : ∀ l : List Int, 0 ≤ ccl w lo hi l ∧ ccl w lo hi l ≤ l.length
  | [] => by simp [ccl]
  | d :: l => by
    have := ccl_rng w lo hi l; have := b2i_rng (decide (lo ≤ d) && decide (d ≤ hi) && wkB w (d % 7).toNat)
    simp only [ccl, List.length_cons]; omega
theorem cntG_eq {w lo hi : Int} : ∀ (l : List Int) (n : Int), (∀ x ∈ l, 0 ≤ x ∧ x ≤ 109572) → -1000000 + l.length ≤ n → n ≤ 1000000 → cntG w lo hi n l = n - ccl w lo hi l
  | [], n, _, _, _ => by simp [cntG, ccl]
  | d :: l, n, hd, h1, h2 => by
    have hx := hd d (by simp)
    have hl : ∀ x ∈ l, 0 ≤ x ∧ x ≤ 109572 := fun x h => hd x (by simp [h])
    have e : cntIn w lo hi d = (decide (lo ≤ d) && decide (d ≤ hi) && wkB w (d % 7).toNat) := by
      unfold cntIn
      rw [wday_eq hx.1 hx.2]
      have : d % 7 < 7 := by omega
      simp [this]
    simp only [List.length_cons] at h1
    simp only [cntG, ccl]
    rw [e]
    split
    · rename_i h
      rw [wrap_i64 (by omega) (by omega), cntG_eq l _ hl (by omega) (by omega), h]
      simp [b2i]; omega
    · rename_i h
      rw [cntG_eq l _ hl (by omega) (by omega)]
      simp only [Bool.not_eq_true] at h
      rw [h]; simp [b2i]
theorem ccl_step {w lo hi : Int} (hl : lo ≤ hi + 1) : ∀ l : List Int, l.Nodup → ccl w lo (hi + 1) l = ccl w lo hi l + (if hi + 1 ∈ l then b2i (wkB w ((hi + 1) % 7).toNat) else 0)
  | [], _ => by simp [ccl]
  | d :: l, hn => by
    obtain ⟨h1, h2⟩ := List.nodup_cons.1 hn
    simp only [ccl]
    rw [ccl_step hl l h2]
    by_cases hd : hi + 1 = d
    · subst hd
      rw [if_neg h1, if_pos (by simp)]
      have a1 : decide (lo ≤ hi + 1) = true := by simp [hl]
      have a2 : decide (hi + 1 ≤ hi) = false := by simp; omega
      simp [a1, a2, b2i]; omega
    · have a : decide (d ≤ hi + 1) = decide (d ≤ hi) := by
        by_cases hh : d ≤ hi
        · simp [hh]; omega
        · simp [hh]; omega
      rw [a]
      have : (hi + 1 ∈ d :: l) ↔ (hi + 1 ∈ l) := by simp [hd]
      simp only [this]; omega
theorem ccl_zero {w lo hi : Int} (h : hi < lo) : ∀ l : List Int, ccl w lo hi l = 0
  | [] => rfl
  | d :: l => by
    simp only [ccl]
    rw [ccl_zero h l]
    have : (decide (lo ≤ d) && decide (d ≤ hi)) = false := by
      by_cases hh : lo ≤ d
      · have : ¬ d ≤ hi := by omega
        simp [this]
      · simp [hh]
    simp [this, b2i]
theorem c7_zero {w lo : Int} : ∀ k : Nat, c7 w lo (lo - 1) k = 0
  | 0 => rfl
  | k + 1 => by simp only [c7]; rw [c7_zero k]; simp
/-- THE COUNT by weeks is the count by days. -/
theorem weeks {c : Cal} (h : calR c = 0) {lo : Int} (hl : 0 ≤ lo) : ∀ k : Nat, lo + k ≤ 109573 → c7 c.week lo (lo + k - 1) 7 - ccl c.week lo (lo + k - 1) c.closed = cdays (openR c) lo k
  | 0, _ => by
    have e : lo + ((0 : Nat) : Int) - 1 = lo - 1 := by omega
    rw [e, c7_zero, ccl_zero (by omega)]; rfl
  | k + 1, hk => by
    have ih := weeks h hl k (by omega)
    have e : lo + ((k + 1 : Nat) : Int) - 1 = (lo + k - 1) + 1 := by omega
    obtain ⟨a1, a2, a3, a4, a5⟩ := calR_facts h
    rw [e, c7_step (by omega) 7 (Nat.le_refl _), ccl_step (by omega) _ (ascF_nodup _ _ a5), if_pos (by omega)]
    simp only [cdays]
    rw [← ih]
    have e2 : lo + (k : Int) - 1 + 1 = lo + k := by omega
    rw [e2, openR_eq h (by omega) (by omega)]
    unfold wkO
    by_cases hm : lo + (k : Int) ∈ c.closed
    · simp [hm, b2i]; omega
    · simp [hm]; omega
theorem countR_cnt {c : Cal} (h : calR c = 0) (f t : Int) : countR c f t = cnt c f t := by
  have h1 := lo0_rng f; have h2 := hi0_rng t
  obtain ⟨a1, a2, a3, a4, a5⟩ := calR_facts h
  have e : countR c f t = if hi0 t < lo0 f then 0 else cntG c.week (lo0 f) (hi0 t) (cnt7 c.week (lo0 f) (hi0 t) 7) c.closed := rfl
  rw [e]
  unfold cnt
  split
  · have : (hi0 t + 1 - lo0 f).toNat = 0 := by omega
    rw [this]; rfl
  · have hr := c7_rng (w := c.week) (lo := lo0 f) (hi := hi0 t) (by omega) (by omega) 7 (Nat.le_refl _)
    rw [cnt7_eq (by omega) (by omega) (by omega) 7 (Nat.le_refl _), cntG_eq _ _ a4 (by omega) (by omega)]
    have := weeks h (lo := lo0 f) h1.1 (hi0 t + 1 - lo0 f).toNat (by omega)
    rw [← this]
    have e2 : lo0 f + ((hi0 t + 1 - lo0 f).toNat : Int) - 1 = hi0 t := by omega
    rw [e2]
theorem countR_countD {c : Cal} (h : calR c = 0) (f t : Int) : countR c f t = countD c f t := by rw [countR_cnt h, countD_cnt]
def lateD (r : Rule) (c : Cal) (d b : Int) : Int :=
  if (¬ calR c = 0 ∨ isDay d = false) ∨ isDay b = false then 0
  else if countD c (IntKind.i64.wrap (d + 1)) b ≤ r.grace then 0
  else if r.maxFine < IntKind.i64.wrap (countD c (IntKind.i64.wrap (d + 1)) b * r.fine) then r.maxFine else IntKind.i64.wrap (countD c (IntKind.i64.wrap (d + 1)) b * r.fine)
section
variable {r : Rule} {c : Cal} {d b : Int}
theorem lateD_bad (h : (¬ calR c = 0 ∨ isDay d = false) ∨ isDay b = false) : lateD r c d b = 0 := if_pos h
theorem lateD_gr (h : (calR c = 0 ∧ isDay d = true) ∧ isDay b = true) (h2 : countD c (IntKind.i64.wrap (d + 1)) b ≤ r.grace) : lateD r c d b = 0 := by
  unfold lateD; rw [if_neg (lateN h), if_pos h2]
theorem lateD_ok (h : (calR c = 0 ∧ isDay d = true) ∧ isDay b = true) (h2 : r.grace < countD c (IntKind.i64.wrap (d + 1)) b) :
    lateD r c d b = if r.maxFine < IntKind.i64.wrap (countD c (IntKind.i64.wrap (d + 1)) b * r.fine) then r.maxFine else IntKind.i64.wrap (countD c (IntKind.i64.wrap (d + 1)) b * r.fine) := by
  unfold lateD; rw [if_neg (lateN h), if_neg (by omega)]
end
theorem lateD_eq (r : Rule) (c : Cal) (d b : Int) : lateD r c d b = lateR r c d b := by
  unfold lateD lateR
  by_cases h : calR c = 0
  · rw [countR_countD h]
  · simp [h]
theorem wrap_rng64 (n : Int) : -9223372036854775808 ≤ IntKind.i64.wrap n ∧ IntKind.i64.wrap n ≤ 9223372036854775807 := by rw [IntKind.wrap_i64]; omega
theorem lateR_rng {r : Rule} {c : Cal} {d b : Int} (h : -9223372036854775808 ≤ r.maxFine ∧ r.maxFine ≤ 9223372036854775807) : -9223372036854775808 ≤ lateR r c d b ∧ lateR r c d b ≤ 9223372036854775807 := by
  have := wrap_rng64 (countR c (IntKind.i64.wrap (d + 1)) b * r.fine)
  unfold lateR
  split
  · omega
  · split
    · omega
    · split <;> omega
end Pl

set_option maxRecDepth 100000
set_option linter.unusedSimpArgs false
set_option linter.unusedVariables false
namespace Go.Proofs.YtmofeikdaoknlaaDoor
open Go Ab Pl
theorem date_known (n : Int) : ACalls E.P 28 [.int .i64 n] (.d (.bool (isDay n))) := by
  refine ACalls.intro E_ok Tryd.func28 rfl rfl Tryd.ntmps28 Tryd.results28 (Nat.le_of_ble_eq_true rfl) fun hok base S0 w0 => ?_
  -- region 0
  refine AWp.rseq E_ok [0, 2] fun K hK => ?_
  simp
  repeat refine ⟨by first | omega | assumption | (simp only [maxLen]; omega) | (intros; omega) | decide, ?_⟩
  refine hK _ ?_
  clear hK K
  -- region 1
  refine AWp.rseq E_ok [0, 2] fun K hK => ?_
  simp
  repeat refine ⟨by first | omega | assumption | (simp only [maxLen]; omega) | (intros; omega) | decide, ?_⟩
  refine hK _ ?_
  clear hK K
  refine AWp.ret ?_
  repeat first | refine thenN ?_ | refine thenX ?_ | refine thenR ?_ | refine blockN ?_ | refine blockR ?_ | refine blockX ?_ | refine blockM rfl ?_
  simp [RetOk, RV, isDay]
end Go.Proofs.YtmofeikdaoknlaaDoor

set_option maxRecDepth 100000
set_option linter.unusedSimpArgs false
set_option linter.unusedVariables false
namespace Go.Proofs.YtmofeikdaoknlaaDoor
open Go Ab Pl
theorem date_Parts (day : Int) : ACalls E.P 13 [.int .i64 day] (.tup [.int .i64 (partsR day).1, .int .i64 (partsR day).2.1, .int .i64 (partsR day).2.2.1, .int .i64 (partsR day).2.2.2]) := by
  refine ACalls.intro E_ok Tryd.func13 rfl rfl Tryd.ntmps13 Tryd.results13 (Nat.le_of_ble_eq_true rfl) fun hok base S0 w0 => ?_
  -- region 0
  refine AWp.rseq E_ok [0, 2, 3, 4, 5, 6, 7, 8, 11, 23, 34] fun K hK => ?_
  simp [isDay]
  try simp (disch := omega) only [wrap_i64]
  repeat refine ⟨by first | omega | assumption | (simp only [maxLen]; omega) | (intros; omega) | decide, ?_⟩
  refine hK _ ?_
  clear hK K
  refine AWp.seq ?_
  -- region 1
  refine AWp.rseq E_ok [0, 2, 3, 4, 5, 6, 7, 8, 11, 23, 34] fun K hK => ?_
  simp [isDay]
  try simp (disch := omega) only [wrap_i64]
  repeat refine ⟨by first | omega | assumption | (simp only [maxLen]; omega) | (intros; omega) | decide, ?_⟩
  refine meet.of (date_known day) ?_
  simp [isDay]
  try simp (disch := omega) only [wrap_i64]
  repeat refine ⟨by first | omega | assumption | (simp only [maxLen]; omega) | (intros; omega) | decide, ?_⟩
  refine hK _ ?_
  clear hK K
  refine AWp.cond rfl (fun h11 => ?_) (fun h11 => ?_)
  · try simp at h11
    -- region 2
    refine AWp.rseq E_ok [0, 2, 3, 4, 5, 6, 7, 8, 11, 23, 34] fun K hK => ?_
    simp [isDay]
    try simp (disch := omega) only [wrap_i64]
    repeat refine ⟨by first | omega | assumption | (simp only [maxLen]; omega) | (intros; omega) | decide, ?_⟩
    refine hK _ ?_
    clear hK K
    refine AWp.ret ?_
    repeat first | refine thenN ?_ | refine thenX ?_ | refine thenR ?_ | refine blockN ?_ | refine blockR ?_ | refine blockX ?_ | refine blockM rfl ?_
    first | (rw [partsR_bad (by omega)]; simp [RetOk, RV, RVs]; done) | (rw [partsR_ok (by omega)]; simp [RetOk, RV, RVs, hp])
  · try simp at h11
    have e0 : day.tdiv 366 = day / 366 := Int.tdiv_eq_ediv_of_nonneg (by omega)
    have e1 : IntKind.i64.wrap (day / 366) = day / 366 := by rw [wrap_i64] <;> omega
    have e2 : IntKind.i64.wrap (1900 + day / 366) = 1900 + day / 366 := by rw [wrap_i64] <;> omega
    refine AWp.skip ?_
    repeat first | refine thenN ?_ | refine thenX ?_ | refine thenR ?_ | refine blockN ?_ | refine blockR ?_ | refine blockX ?_ | refine blockM rfl ?_
    -- region 3
    refine AWp.rseq E_ok [0, 2, 3, 4, 5, 6, 7, 8, 11, 23, 34] fun K hK => ?_
    simp [isDay, e0, e1, e2]
    try simp (disch := omega) only [wrap_i64]
    repeat refine ⟨by first | omega | assumption | (simp only [maxLen]; omega) | (intros; omega) | decide, ?_⟩
    refine hK _ ?_
    clear hK K
    refine AWp.seq ?_
    refine AWp.block ?_
    refine AWp.loop (ι := { y : Int // 1900 ≤ y ∧ y ≤ 2199 ∧ nyD y ≤ day }) (fun x => match x with | ⟨y, hy⟩ => [(0, T.val (D.int IntKind.i64 day)), (6, T.val (.int .i64 y))]) (fun x => match x with | ⟨y, hy⟩ => (2200 - y).toNat) ⟨1900 + day / 366, by omega, by omega, by have := ny_rng (y := 1900 + day / 366) (by omega) (by omega); omega⟩ ?_ ?_
    · simp [Weak, TW, isDay]
    rintro ⟨y, hy⟩
    simp only
    try simp only at hy
    refine AWp.seq ?_
    -- region 4
    refine AWp.rseq E_ok [0, 2, 3, 4, 5, 6, 7, 8, 11, 23, 34] fun K hK => ?_
    simp [isDay, e0, e1, e2]
    try simp (disch := omega) only [wrap_i64]
    repeat refine ⟨by first | omega | assumption | (simp only [maxLen]; omega) | (intros; omega) | decide, ?_⟩
    refine meet.of (date_newYear (y + 1) (by omega)) ?_
    simp [isDay, e0, e1, e2]
    try simp (disch := omega) only [wrap_i64]
    repeat refine ⟨by first | omega | assumption | (simp only [maxLen]; omega) | (intros; omega) | decide, ?_⟩
    refine hK _ ?_
    clear hK K
    refine AWp.cond rfl (fun h23 => ?_) (fun h23 => ?_)
    · try simp at h23
      refine AWp.skip ?_
      repeat first | refine thenN ?_ | refine thenX ?_ | refine thenR ?_ | refine blockN ?_ | refine blockR ?_ | refine blockX ?_ | refine blockM rfl ?_
      refine AWp.block ?_
      -- region 5
      refine AWp.rend E_ok [0, 2, 3, 4, 5, 6, 7, 8, 11, 23, 34] fun K hK => ?_
      simp [isDay, e0, e1, e2]
      try simp (disch := omega) only [wrap_i64]
      repeat refine ⟨by first | omega | assumption | (simp only [maxLen]; omega) | (intros; omega) | decide, ?_⟩
      refine hK _ ?_
      clear hK K
      repeat first | refine thenN ?_ | refine thenX ?_ | refine thenR ?_ | refine blockN ?_ | refine blockR ?_ | refine blockX ?_ | refine blockM rfl ?_
      refine ⟨⟨y + 1, by omega, by omega, by omega⟩, ?_, by simp only; omega⟩
      have hw : IntKind.i64.wrap (y + 1) = y + 1 := by rw [wrap_i64] <;> omega
      simp [Weak, TW, hw]
    · try simp at h23
      have hy3 : day < nyD (y + 1) := by rcases (show y < 2199 ∨ y = 2199 by omega) with hh | hh <;> first | (have := h23 hh; omega) | (rw [show y + 1 = 2200 by omega, ny_end]; omega)
      have nr := ny_rng hy.1 (by omega)
      have e3 : IntKind.i64.wrap (day - nyD y) = day - nyD y := by rw [wrap_i64] <;> omega
      have st := ny_step hy.1 hy.2.1
      have be := bef_end hy.1 hy.2.1
      refine AWp.exit ?_
      repeat first | refine thenN ?_ | refine thenX ?_ | refine thenR ?_ | refine blockN ?_ | refine blockR ?_ | refine blockX ?_ | refine blockM rfl ?_
      -- region 6
      refine AWp.rseq E_ok [0, 2, 3, 4, 5, 6, 7, 8, 11, 23, 34] fun K hK => ?_
      simp [isDay, e0, e1, e2, e3]
      try simp (disch := omega) only [wrap_i64]
      repeat refine ⟨by first | omega | assumption | (simp only [maxLen]; omega) | (intros; omega) | decide, ?_⟩
      refine meet.of (date_newYear y (by omega)) ?_
      simp [isDay, e0, e1, e2, e3]
      try simp (disch := omega) only [wrap_i64]
      repeat refine ⟨by first | omega | assumption | (simp only [maxLen]; omega) | (intros; omega) | decide, ?_⟩
      refine hK _ ?_
      clear hK K
      -- region 7
      refine AWp.rseq E_ok [0, 2, 3, 4, 5, 6, 7, 8, 11, 23, 34] fun K hK => ?_
      simp [isDay, e0, e1, e2, e3]
      try simp (disch := omega) only [wrap_i64]
      repeat refine ⟨by first | omega | assumption | (simp only [maxLen]; omega) | (intros; omega) | decide, ?_⟩
      refine hK _ ?_
      clear hK K
      refine AWp.seq ?_
      refine AWp.block ?_
      refine AWp.loop (ι := { m : Int // 1 ≤ m ∧ m ≤ 12 ∧ day - nyD y < befD y (m + 1) }) (fun x => match x with | ⟨m, hm⟩ => [(0, T.val (D.int IntKind.i64 day)), (6, T.val (D.int IntKind.i64 y)), (7, T.val (D.int IntKind.i64 (day - nyD y))), (8, T.val (.int .i64 m))]) (fun x => match x with | ⟨m, hm⟩ => m.toNat) ⟨12, by omega, by omega, by rw [show (12 : Int) + 1 = 13 from rfl, be]; omega⟩ ?_ ?_
      · simp [Weak, TW, isDay]
      rintro ⟨m, hm⟩
      simp only
      try simp only at hm
      refine AWp.seq ?_
      -- region 8
      refine AWp.rseq E_ok [0, 2, 3, 4, 5, 6, 7, 8, 11, 23, 34] fun K hK => ?_
      simp [isDay, e0, e1, e2, e3]
      try simp (disch := omega) only [wrap_i64]
      repeat refine ⟨by first | omega | assumption | (simp only [maxLen]; omega) | (intros; omega) | decide, ?_⟩
      refine meet.of (date_before y m (by omega) (by omega)) ?_
      simp [isDay, e0, e1, e2, e3]
      try simp (disch := omega) only [wrap_i64]
      repeat refine ⟨by first | omega | assumption | (simp only [maxLen]; omega) | (intros; omega) | decide, ?_⟩
      refine hK _ ?_
      clear hK K
      refine AWp.cond rfl (fun h34 => ?_) (fun h34 => ?_)
      · try simp at h34
        refine AWp.skip ?_
        repeat first | refine thenN ?_ | refine thenX ?_ | refine thenR ?_ | refine blockN ?_ | refine blockR ?_ | refine blockX ?_ | refine blockM rfl ?_
        refine AWp.block ?_
        -- region 9
        refine AWp.rend E_ok [0, 2, 3, 4, 5, 6, 7, 8, 11, 23, 34] fun K hK => ?_
        simp [isDay, e0, e1, e2, e3]
        try simp (disch := omega) only [wrap_i64]
        repeat refine ⟨by first | omega | assumption | (simp only [maxLen]; omega) | (intros; omega) | decide, ?_⟩
        refine hK _ ?_
        clear hK K
        repeat first | refine thenN ?_ | refine thenX ?_ | refine thenR ?_ | refine blockN ?_ | refine blockR ?_ | refine blockX ?_ | refine blockM rfl ?_
        have hm2 : 2 ≤ m := by rcases (show 2 ≤ m ∨ m = 1 by omega) with hh | hh <;> first | exact hh | (exfalso; subst hh; rw [bef_first] at h34; omega)
        refine ⟨⟨m - 1, by omega, by omega, by rw [show m - 1 + 1 = m by omega]; omega⟩, ?_, by simp only; omega⟩
        have hw : IntKind.i64.wrap (m - 1) = m - 1 := by rw [wrap_i64] <;> omega
        simp [Weak, TW, hw]
      · try simp at h34
        have b1 := bef_mono (y := y) (m := 1) (n := m) (by omega) (by omega) hm.1
        rw [bef_first] at b1
        have hp := parts_eq (parts_mk hy.1 hy.2.1 hm.1 hm.2.1 (day := day) (by omega) (by omega))
        have e4 : IntKind.i64.wrap (day - nyD y - befD y m) = day - nyD y - befD y m := by rw [wrap_i64] <;> omega
        have e5 : IntKind.i64.wrap (day - nyD y - befD y m + 1) = day - nyD y - befD y m + 1 := by rw [wrap_i64] <;> omega
        refine AWp.exit ?_
        repeat first | refine thenN ?_ | refine thenX ?_ | refine thenR ?_ | refine blockN ?_ | refine blockR ?_ | refine blockX ?_ | refine blockM rfl ?_
        -- region 10
        refine AWp.rseq E_ok [0, 2, 3, 4, 5, 6, 7, 8, 11, 23, 34] fun K hK => ?_
        simp [isDay, e0, e1, e2, e3, e4, e5]
        try simp (disch := omega) only [wrap_i64]
        repeat refine ⟨by first | omega | assumption | (simp only [maxLen]; omega) | (intros; omega) | decide, ?_⟩
        refine meet.of (date_before y m (by omega) (by omega)) ?_
        simp [isDay, e0, e1, e2, e3, e4, e5]
        try simp (disch := omega) only [wrap_i64]
        repeat refine ⟨by first | omega | assumption | (simp only [maxLen]; omega) | (intros; omega) | decide, ?_⟩
        refine hK _ ?_
        clear hK K
        refine AWp.ret ?_
        repeat first | refine thenN ?_ | refine thenX ?_ | refine thenR ?_ | refine blockN ?_ | refine blockR ?_ | refine blockX ?_ | refine blockM rfl ?_
        first | (rw [partsR_bad (by omega)]; simp [RetOk, RV, RVs]; done) | (rw [partsR_ok (by omega)]; simp [RetOk, RV, RVs, hp])
end Go.Proofs.YtmofeikdaoknlaaDoor

set_option maxRecDepth 100000
set_option linter.unusedSimpArgs false
set_option linter.unusedVariables false
namespace Go.Proofs.YtmofeikdaoknlaaDoor
open Go Ab Pl
theorem date_Months (day n : Int) : ACalls E.P 19 [.int .i64 day, .int .i64 n] (.tup [.int .i64 (monthsR day n).1, .int .i64 (monthsR day n).2]) := by
  refine ACalls.intro E_ok Tryd.func19 rfl rfl Tryd.ntmps19 Tryd.results19 (Nat.le_of_ble_eq_true rfl) fun hok base S0 w0 => ?_
  -- region 0
  refine AWp.rseq E_ok [0, 1, 4, 5, 6, 7, 8, 9, 10, 19, 26, 40] fun K hK => ?_
  simp
  try simp (disch := omega) only [wrap_i64]
  repeat refine ⟨by first | omega | assumption | (simp only [maxLen]; omega) | (intros; omega) | decide, ?_⟩
  refine hK _ ?_
  clear hK K
  -- region 1
  refine AWp.rseq E_ok [0, 1, 4, 5, 6, 7, 8, 9, 10, 19, 26, 40] fun K hK => ?_
  simp
  try simp (disch := omega) only [wrap_i64]
  repeat refine ⟨by first | omega | assumption | (simp only [maxLen]; omega) | (intros; omega) | decide, ?_⟩
  refine meet.of (date_Parts day) ?_
  simp
  try simp (disch := omega) only [wrap_i64]
  repeat refine ⟨by first | omega | assumption | (simp only [maxLen]; omega) | (intros; omega) | decide, ?_⟩
  refine hK _ ?_
  clear hK K
  refine AWp.seq ?_
  -- region 2
  refine AWp.rseq E_ok [0, 1, 4, 5, 6, 7, 8, 9, 10, 19, 26, 40] fun K hK => ?_
  simp
  try simp (disch := omega) only [wrap_i64]
  repeat refine ⟨by first | omega | assumption | (simp only [maxLen]; omega) | (intros; omega) | decide, ?_⟩
  refine hK _ ?_
  clear hK K
  refine AWp.cond rfl (fun h19 => ?_) (fun h19 => ?_)
  · try simp at h19
    have hb := months_a (day := day) (n := n) (.inl (partsR_unknown h19))
    have hpr := partsR_bad (partsR_unknown h19)
    -- region 3
    refine AWp.rseq E_ok [0, 1, 4, 5, 6, 7, 8, 9, 10, 19, 26, 40] fun K hK => ?_
    simp [hpr]
    try simp (disch := omega) only [wrap_i64]
    repeat refine ⟨by first | omega | assumption | (simp only [maxLen]; omega) | (intros; omega) | decide, ?_⟩
    refine hK _ ?_
    clear hK K
    refine AWp.ret ?_
    repeat first | refine thenN ?_ | refine thenX ?_ | refine thenR ?_ | refine blockN ?_ | refine blockR ?_ | refine blockX ?_ | refine blockM rfl ?_
    first | (simp [RetOk, RV, RVs, hb, hpr]; done) | (simp [RetOk, RV, RVs, hb])
  · try simp at h19
    have hk := partsR_known h19
    have hpr := partsR_ok hk
    have hi := parts_in (parts_is hk.1 hk.2)
    refine AWp.skip ?_
    repeat first | refine thenN ?_ | refine thenX ?_ | refine thenR ?_ | refine blockN ?_ | refine blockR ?_ | refine blockX ?_ | refine blockM rfl ?_
    refine AWp.seq ?_
    -- region 4
    refine AWp.rseq E_ok [0, 1, 4, 5, 6, 7, 8, 9, 10, 19, 26, 40] fun K hK => ?_
    simp [hpr]
    try simp (disch := omega) only [wrap_i64]
    repeat refine ⟨by first | omega | assumption | (simp only [maxLen]; omega) | (intros; omega) | decide, ?_⟩
    refine hK _ ?_
    clear hK K
    refine AWp.cond rfl (fun h26 => ?_) (fun h26 => ?_)
    · try simp at h26
      have hb := months_a (day := day) (n := n) (.inr (by omega))
      -- region 5
      refine AWp.rseq E_ok [0, 1, 4, 5, 6, 7, 8, 9, 10, 19, 26, 40] fun K hK => ?_
      simp [hpr]
      try simp (disch := omega) only [wrap_i64]
      repeat refine ⟨by first | omega | assumption | (simp only [maxLen]; omega) | (intros; omega) | decide, ?_⟩
      refine hK _ ?_
      clear hK K
      refine AWp.ret ?_
      repeat first | refine thenN ?_ | refine thenX ?_ | refine thenR ?_ | refine blockN ?_ | refine blockR ?_ | refine blockX ?_ | refine blockM rfl ?_
      first | (simp [RetOk, RV, RVs, hb, hpr]; done) | (simp [RetOk, RV, RVs, hb])
    · try simp at h26
      have hkk : ((partsP day).y - 1900) * 12 + (partsP day).m - 1 + n = monK day n - 22800 := by unfold monK; omega
      refine AWp.skip ?_
      repeat first | refine thenN ?_ | refine thenX ?_ | refine thenR ?_ | refine blockN ?_ | refine blockR ?_ | refine blockX ?_ | refine blockM rfl ?_
      -- region 6
      refine AWp.rseq E_ok [0, 1, 4, 5, 6, 7, 8, 9, 10, 19, 26, 40] fun K hK => ?_
      simp [hpr, hkk]
      try simp (disch := omega) only [wrap_i64]
      repeat refine ⟨by first | omega | assumption | (simp only [maxLen]; omega) | (intros; omega) | decide, ?_⟩
      refine hK _ ?_
      clear hK K
      refine AWp.seq ?_
      -- region 7
      refine AWp.rseq E_ok [0, 1, 4, 5, 6, 7, 8, 9, 10, 19, 26, 40] fun K hK => ?_
      simp [hpr, hkk]
      try simp (disch := omega) only [wrap_i64]
      repeat refine ⟨by first | omega | assumption | (simp only [maxLen]; omega) | (intros; omega) | decide, ?_⟩
      refine hK _ ?_
      clear hK K
      refine AWp.cond rfl (fun h40 => ?_) (fun h40 => ?_)
      · try simp at h40
        have hb := months_b (day := day) (n := n) ⟨hk, by omega, by omega⟩ (by omega)
        -- region 8
        refine AWp.rseq E_ok [0, 1, 4, 5, 6, 7, 8, 9, 10, 19, 26, 40] fun K hK => ?_
        simp [hpr, hkk]
        try simp (disch := omega) only [wrap_i64]
        repeat refine ⟨by first | omega | assumption | (simp only [maxLen]; omega) | (intros; omega) | decide, ?_⟩
        refine hK _ ?_
        clear hK K
        refine AWp.ret ?_
        repeat first | refine thenN ?_ | refine thenX ?_ | refine thenR ?_ | refine blockN ?_ | refine blockR ?_ | refine blockX ?_ | refine blockM rfl ?_
        first | (simp [RetOk, RV, RVs, hb, hpr]; done) | (simp [RetOk, RV, RVs, hb])
      · try simp at h40
        have hb := months_c (day := day) (n := n) ⟨hk, by omega, by omega⟩ (by omega)
        have q1 : (monK day n - 22800).tdiv 12 = monK day n / 12 - 1900 := by rw [Int.tdiv_eq_ediv_of_nonneg (by omega)]; omega
        have q2 : (monK day n - 22800).tmod 12 = monK day n % 12 := by rw [Int.tmod_eq_emod_of_nonneg (by omega)]; omega
        have q3 : 1900 + (monK day n / 12 - 1900) = monK day n / 12 := by omega
        have q4 : (if mlenD (monK day n / 12) (monK day n % 12 + 1) < (partsP day).d then mlenD (monK day n / 12) (monK day n % 12 + 1) else (partsP day).d) = min (partsP day).d (mlenD (monK day n / 12) (monK day n % 12 + 1)) := by split <;> omega
        refine AWp.skip ?_
        repeat first | refine thenN ?_ | refine thenX ?_ | refine thenR ?_ | refine blockN ?_ | refine blockR ?_ | refine blockX ?_ | refine blockM rfl ?_
        -- region 9
        refine AWp.rseq E_ok [0, 1, 4, 5, 6, 7, 8, 9, 10, 19, 26, 40] fun K hK => ?_
        simp [hpr, hkk, q1, q2, q3, q4]
        try simp (disch := omega) only [wrap_i64]
        repeat refine ⟨by first | omega | assumption | (simp only [maxLen]; omega) | (intros; omega) | decide, ?_⟩
        refine hK _ ?_
        clear hK K
        -- region 10
        refine AWp.rseq E_ok [0, 1, 4, 5, 6, 7, 8, 9, 10, 19, 26, 40] fun K hK => ?_
        simp [hpr, hkk, q1, q2, q3, q4]
        try simp (disch := omega) only [wrap_i64]
        repeat refine ⟨by first | omega | assumption | (simp only [maxLen]; omega) | (intros; omega) | decide, ?_⟩
        refine meet.of (date_Length (monK day n / 12) (monK day n % 12 + 1)) ?_
        simp [hpr, hkk, q1, q2, q3, q4]
        try simp (disch := omega) only [wrap_i64]
        repeat refine ⟨by first | omega | assumption | (simp only [maxLen]; omega) | (intros; omega) | decide, ?_⟩
        refine meet.of (date_Of (monK day n / 12) (monK day n % 12 + 1) (min (partsP day).d (mlenD (monK day n / 12) (monK day n % 12 + 1)))) ?_
        simp [hpr, hkk, q1, q2, q3, q4]
        try simp (disch := omega) only [wrap_i64]
        repeat refine ⟨by first | omega | assumption | (simp only [maxLen]; omega) | (intros; omega) | decide, ?_⟩
        refine hK _ ?_
        clear hK K
        refine AWp.ret ?_
        repeat first | refine thenN ?_ | refine thenX ?_ | refine thenR ?_ | refine blockN ?_ | refine blockR ?_ | refine blockX ?_ | refine blockM rfl ?_
        first | (simp [RetOk, RV, RVs, hb, hpr]; done) | (simp [RetOk, RV, RVs, hb])
end Go.Proofs.YtmofeikdaoknlaaDoor

set_option maxRecDepth 100000
set_option linter.unusedSimpArgs false
set_option linter.unusedVariables false
namespace Go.Proofs.YtmofeikdaoknlaaDoor
open Go Ab Pl
theorem strconv_Itoa (n : Int) (h0 : -9223372036854775808 ≤ n) (h1 : n ≤ 9223372036854775807) : ACalls E.P 35 [.int .i64 n] (.d (.str (Go.Lib.itoa n))) :=
  ACalls.itoa n ⟨_, Tryd.func35, by kernel_rfl, by kernel_rfl⟩ (by have := Go.Lib.itoa_length_le n h0 h1; simp only [maxLen]; omega) (fun w S h => amb_is2 h) (fun h0 h1 w ht => Tryd.strconv_Itoa n h0 h1 w ht)

end Go.Proofs.YtmofeikdaoknlaaDoor

set_option maxRecDepth 100000
set_option linter.unusedSimpArgs false
set_option linter.unusedVariables false
namespace Go.Proofs.YtmofeikdaoknlaaDoor
open Go Ab Pl
theorem date_padded (n : Int) (w : Nat) (h0 : 0 ≤ n) (h1 : n < 10 ^ (w + 1)) (hw : w ≤ 5) (hn : n ≤ 1000000) : ACalls E.P 32 [.int .i64 n, .int .i64 ((w : Int) + 1)] (.d (.str (digD n (w + 1)))) := by
  refine ACalls.intro E_ok Tryd.func32 rfl rfl Tryd.ntmps32 Tryd.results32 (Nat.le_of_ble_eq_true rfl) fun hok base S0 w0 => ?_
  obtain ⟨p1, p2⟩ := pad_rep w n h0 h1
  have e1 : IntKind.i64.wrap ((w : Int) + 1 - (Go.Lib.itoa n).length) = ((w + 1 - (Go.Lib.itoa n).length : Nat) : Int) := by rw [wrap_i64] <;> omega
  have rl := Go.Lib.repeatL_length [48] (w + 1 - (Go.Lib.itoa n).length)
  simp at rl
  -- region 0
  refine AWp.rseq E_ok [0, 1, 4, 5] fun K hK => ?_
  simp [e1]
  repeat refine ⟨by first | omega | assumption | (simp only [maxLen]; omega) | (intros; omega) | decide, ?_⟩
  refine hK _ ?_
  clear hK K
  -- region 1
  refine AWp.rseq E_ok [0, 1, 4, 5] fun K hK => ?_
  simp [e1]
  repeat refine ⟨by first | omega | assumption | (simp only [maxLen]; omega) | (intros; omega) | decide, ?_⟩
  refine meet.of (strconv_Itoa n (by omega) (by omega)) ?_
  simp [e1]
  repeat refine ⟨by first | omega | assumption | (simp only [maxLen]; omega) | (intros; omega) | decide, ?_⟩
  refine hK _ ?_
  clear hK K
  -- region 2
  refine AWp.rseq E_ok [0, 1, 4, 5] fun K hK => ?_
  simp [e1]
  repeat refine ⟨by first | omega | assumption | (simp only [maxLen]; omega) | (intros; omega) | decide, ?_⟩
  refine meet.of (strings_Repeat [48] (w + 1 - (Go.Lib.itoa n).length) (by omega) (by decide)) ?_
  simp [e1]
  repeat refine ⟨by first | omega | assumption | (simp only [maxLen]; omega) | (intros; omega) | decide, ?_⟩
  refine hK _ ?_
  clear hK K
  refine AWp.ret ?_
  repeat first | refine thenN ?_ | refine thenX ?_ | refine thenR ?_ | refine blockN ?_ | refine blockR ?_ | refine blockX ?_ | refine blockM rfl ?_
  simp [RetOk, RV, RVs, p2]
end Go.Proofs.YtmofeikdaoknlaaDoor

set_option maxRecDepth 100000
set_option linter.unusedSimpArgs false
set_option linter.unusedVariables false
namespace Go.Proofs.YtmofeikdaoknlaaDoor
open Go Ab Pl
theorem date_pad4 (n : Int) (h0 : 0 ≤ n) (h1 : n < 10000) : ACalls E.P 32 [.int .i64 n, .int .i64 4] (.d (.str (digD n 4))) := date_padded n 3 h0 (by simpa using h1) (by omega) (by omega)
theorem date_pad2 (n : Int) (h0 : 0 ≤ n) (h1 : n < 100) : ACalls E.P 32 [.int .i64 n, .int .i64 2] (.d (.str (digD n 2))) := date_padded n 1 h0 (by simpa using h1) (by omega) (by omega)

end Go.Proofs.YtmofeikdaoknlaaDoor

set_option maxRecDepth 100000
set_option linter.unusedSimpArgs false
set_option linter.unusedVariables false
namespace Go.Proofs.YtmofeikdaoknlaaDoor
open Go Ab Pl
theorem date_Format (day : Int) : ACalls E.P 23 [.int .i64 day] (.d (.str (formatR day))) := by
  refine ACalls.intro E_ok Tryd.func23 rfl rfl Tryd.ntmps23 Tryd.results23 (Nat.le_of_ble_eq_true rfl) fun hok base S0 w0 => ?_
  -- region 0
  refine AWp.rseq E_ok [0, 2, 3, 4, 5, 6, 15] fun K hK => ?_
  simp [digD_len]
  repeat refine ⟨by first | omega | assumption | (simp only [maxLen]; omega) | (intros; omega) | decide, ?_⟩
  refine hK _ ?_
  clear hK K
  -- region 1
  refine AWp.rseq E_ok [0, 2, 3, 4, 5, 6, 15] fun K hK => ?_
  simp [digD_len]
  repeat refine ⟨by first | omega | assumption | (simp only [maxLen]; omega) | (intros; omega) | decide, ?_⟩
  refine meet.of (date_Parts day) ?_
  simp [digD_len]
  repeat refine ⟨by first | omega | assumption | (simp only [maxLen]; omega) | (intros; omega) | decide, ?_⟩
  refine hK _ ?_
  clear hK K
  refine AWp.seq ?_
  -- region 2
  refine AWp.rseq E_ok [0, 2, 3, 4, 5, 6, 15] fun K hK => ?_
  simp [digD_len]
  repeat refine ⟨by first | omega | assumption | (simp only [maxLen]; omega) | (intros; omega) | decide, ?_⟩
  refine hK _ ?_
  clear hK K
  refine AWp.cond rfl (fun h15 => ?_) (fun h15 => ?_)
  · try simp at h15
    have hb := format_bad (partsR_unknown h15)
    -- region 3
    refine AWp.rseq E_ok [0, 2, 3, 4, 5, 6, 15] fun K hK => ?_
    simp [digD_len]
    repeat refine ⟨by first | omega | assumption | (simp only [maxLen]; omega) | (intros; omega) | decide, ?_⟩
    refine hK _ ?_
    clear hK K
    refine AWp.ret ?_
    repeat first | refine thenN ?_ | refine thenX ?_ | refine thenR ?_ | refine blockN ?_ | refine blockR ?_ | refine blockX ?_ | refine blockM rfl ?_
    first | (rw [hb]; simp [RetOk, RV, RVs]; done) | (simp [RetOk, RV, RVs, hb])
  · try simp at h15
    have hk := partsR_known h15
    have hpr := partsR_ok hk
    have hi := parts_in (parts_is hk.1 hk.2)
    have hb := format_ok hk
    refine AWp.skip ?_
    repeat first | refine thenN ?_ | refine thenX ?_ | refine thenR ?_ | refine blockN ?_ | refine blockR ?_ | refine blockX ?_ | refine blockM rfl ?_
    -- region 4
    refine AWp.rseq E_ok [0, 2, 3, 4, 5, 6, 15] fun K hK => ?_
    simp [digD_len, hpr]
    repeat refine ⟨by first | omega | assumption | (simp only [maxLen]; omega) | (intros; omega) | decide, ?_⟩
    refine meet.of (date_pad4 (partsP day).y (by omega) (by omega)) ?_
    simp [digD_len, hpr]
    repeat refine ⟨by first | omega | assumption | (simp only [maxLen]; omega) | (intros; omega) | decide, ?_⟩
    refine meet.of (date_pad2 (partsP day).m (by omega) (by omega)) ?_
    simp [digD_len, hpr]
    repeat refine ⟨by first | omega | assumption | (simp only [maxLen]; omega) | (intros; omega) | decide, ?_⟩
    refine meet.of (date_pad2 (partsP day).d (by omega) (by omega)) ?_
    simp [digD_len, hpr]
    repeat refine ⟨by first | omega | assumption | (simp only [maxLen]; omega) | (intros; omega) | decide, ?_⟩
    refine hK _ ?_
    clear hK K
    refine AWp.ret ?_
    repeat first | refine thenN ?_ | refine thenX ?_ | refine thenR ?_ | refine blockN ?_ | refine blockR ?_ | refine blockX ?_ | refine blockM rfl ?_
    first | (rw [hb]; simp [RetOk, RV, RVs]; done) | (simp [RetOk, RV, RVs, hb])
end Go.Proofs.YtmofeikdaoknlaaDoor

set_option maxRecDepth 100000
set_option linter.unusedSimpArgs false
set_option linter.unusedVariables false
namespace Go.Proofs.YtmofeikdaoknlaaDoor
open Go Ab Pl
theorem date_Weekday (n : Int) : ACalls E.P 17 [.int .i64 n] (.d (.int .i64 (wday n))) := by
  refine ACalls.intro E_ok Tryd.func17 rfl rfl Tryd.ntmps17 Tryd.results17 (Nat.le_of_ble_eq_true rfl) fun hok base S0 w0 => ?_
  -- region 0
  refine AWp.rseq E_ok [0, 2, 5] fun K hK => ?_
  simp
  repeat refine ⟨by first | omega | assumption | (simp only [maxLen]; omega) | (intros; omega) | decide, ?_⟩
  refine hK _ ?_
  clear hK K
  refine AWp.seq ?_
  -- region 1
  refine AWp.rseq E_ok [0, 2, 5] fun K hK => ?_
  simp
  repeat refine ⟨by first | omega | assumption | (simp only [maxLen]; omega) | (intros; omega) | decide, ?_⟩
  refine meet.of (date_known _) ?_
  simp
  repeat refine ⟨by first | omega | assumption | (simp only [maxLen]; omega) | (intros; omega) | decide, ?_⟩
  refine hK _ ?_
  clear hK K
  refine AWp.cond rfl (fun h5 => ?_) (fun h5 => ?_)
  · try simp at h5
    -- region 2
    refine AWp.rseq E_ok [0, 2, 5] fun K hK => ?_
    simp [h5]
    repeat refine ⟨by first | omega | assumption | (simp only [maxLen]; omega) | (intros; omega) | decide, ?_⟩
    refine hK _ ?_
    clear hK K
    refine AWp.ret ?_
    repeat first | refine thenN ?_ | refine thenX ?_ | refine thenR ?_ | refine blockN ?_ | refine blockR ?_ | refine blockX ?_ | refine blockM rfl ?_
    simp [RetOk, RV, wday, h5]
  · try simp at h5
    refine AWp.skip ?_
    repeat first | refine thenN ?_ | refine thenX ?_ | refine thenR ?_ | refine blockN ?_ | refine blockR ?_ | refine blockX ?_ | refine blockM rfl ?_
    -- region 3
    refine AWp.rseq E_ok [0, 2, 5] fun K hK => ?_
    simp [h5]
    repeat refine ⟨by first | omega | assumption | (simp only [maxLen]; omega) | (intros; omega) | decide, ?_⟩
    refine hK _ ?_
    clear hK K
    refine AWp.ret ?_
    repeat first | refine thenN ?_ | refine thenX ?_ | refine thenR ?_ | refine blockN ?_ | refine blockR ?_ | refine blockX ?_ | refine blockM rfl ?_
    simp [RetOk, RV, wday, h5]
end Go.Proofs.YtmofeikdaoknlaaDoor

set_option maxRecDepth 100000
set_option linter.unusedSimpArgs false
set_option linter.unusedVariables false
namespace Go.Proofs.YtmofeikdaoknlaaDoor
open Go Ab Pl
theorem law03_alive  : ACalls E.P 12 [] (.d (.bool true)) := by
  refine ACalls.intro E_ok Tryd.func12 rfl rfl Tryd.ntmps12 Tryd.results12 (Nat.le_of_ble_eq_true rfl) fun hok base S0 w0 => ?_
  -- region 0
  refine AWp.rseq E_ok [0, 1, 2, 3, 4, 6, 7, 8, 10, 11, 12, 14, 16] fun K hK => ?_
  simp [ex_of1, ex_of2, ex_of3, ex_months1, ex_months2, ex_p1, ex_p2, ex_p3, ex_format, wday, isDay]
  repeat refine ⟨by first | omega | assumption | (simp only [maxLen]; omega) | (intros; omega) | decide, ?_⟩
  refine hK _ ?_
  clear hK K
  -- region 1
  refine AWp.rseq E_ok [0, 1, 2, 3, 4, 6, 7, 8, 10, 11, 12, 14, 16] fun K hK => ?_
  simp [ex_of1, ex_of2, ex_of3, ex_months1, ex_months2, ex_p1, ex_p2, ex_p3, ex_format, wday, isDay]
  repeat refine ⟨by first | omega | assumption | (simp only [maxLen]; omega) | (intros; omega) | decide, ?_⟩
  refine meet.of (date_Of 2026 11 16) ?_
  simp [ex_of1, ex_of2, ex_of3, ex_months1, ex_months2, ex_p1, ex_p2, ex_p3, ex_format, wday, isDay]
  repeat refine ⟨by first | omega | assumption | (simp only [maxLen]; omega) | (intros; omega) | decide, ?_⟩
  refine hK _ ?_
  clear hK K
  -- region 2
  refine AWp.rseq E_ok [0, 1, 2, 3, 4, 6, 7, 8, 10, 11, 12, 14, 16] fun K hK => ?_
  simp [ex_of1, ex_of2, ex_of3, ex_months1, ex_months2, ex_p1, ex_p2, ex_p3, ex_format, wday, isDay]
  repeat refine ⟨by first | omega | assumption | (simp only [maxLen]; omega) | (intros; omega) | decide, ?_⟩
  refine meet.of (date_Of 2000 2 29) ?_
  simp [ex_of1, ex_of2, ex_of3, ex_months1, ex_months2, ex_p1, ex_p2, ex_p3, ex_format, wday, isDay]
  repeat refine ⟨by first | omega | assumption | (simp only [maxLen]; omega) | (intros; omega) | decide, ?_⟩
  refine hK _ ?_
  clear hK K
  -- region 3
  refine AWp.rseq E_ok [0, 1, 2, 3, 4, 6, 7, 8, 10, 11, 12, 14, 16] fun K hK => ?_
  simp [ex_of1, ex_of2, ex_of3, ex_months1, ex_months2, ex_p1, ex_p2, ex_p3, ex_format, wday, isDay]
  repeat refine ⟨by first | omega | assumption | (simp only [maxLen]; omega) | (intros; omega) | decide, ?_⟩
  refine meet.of (date_Of 1900 2 29) ?_
  simp [ex_of1, ex_of2, ex_of3, ex_months1, ex_months2, ex_p1, ex_p2, ex_p3, ex_format, wday, isDay]
  repeat refine ⟨by first | omega | assumption | (simp only [maxLen]; omega) | (intros; omega) | decide, ?_⟩
  refine hK _ ?_
  clear hK K
  -- region 4
  refine AWp.rseq E_ok [0, 1, 2, 3, 4, 6, 7, 8, 10, 11, 12, 14, 16] fun K hK => ?_
  simp [ex_of1, ex_of2, ex_of3, ex_months1, ex_months2, ex_p1, ex_p2, ex_p3, ex_format, wday, isDay]
  repeat refine ⟨by first | omega | assumption | (simp only [maxLen]; omega) | (intros; omega) | decide, ?_⟩
  refine meet.of (date_Months 30 1) ?_
  simp [ex_of1, ex_of2, ex_of3, ex_months1, ex_months2, ex_p1, ex_p2, ex_p3, ex_format, wday, isDay]
  repeat refine ⟨by first | omega | assumption | (simp only [maxLen]; omega) | (intros; omega) | decide, ?_⟩
  refine hK _ ?_
  clear hK K
  -- region 5
  refine AWp.rseq E_ok [0, 1, 2, 3, 4, 6, 7, 8, 10, 11, 12, 14, 16] fun K hK => ?_
  simp [ex_of1, ex_of2, ex_of3, ex_months1, ex_months2, ex_p1, ex_p2, ex_p3, ex_format, wday, isDay]
  repeat refine ⟨by first | omega | assumption | (simp only [maxLen]; omega) | (intros; omega) | decide, ?_⟩
  refine meet.of (date_Months 0 (-1)) ?_
  simp [ex_of1, ex_of2, ex_of3, ex_months1, ex_months2, ex_p1, ex_p2, ex_p3, ex_format, wday, isDay]
  repeat refine ⟨by first | omega | assumption | (simp only [maxLen]; omega) | (intros; omega) | decide, ?_⟩
  refine hK _ ?_
  clear hK K
  -- region 6
  refine AWp.rseq E_ok [0, 1, 2, 3, 4, 6, 7, 8, 10, 11, 12, 14, 16] fun K hK => ?_
  simp [ex_of1, ex_of2, ex_of3, ex_months1, ex_months2, ex_p1, ex_p2, ex_p3, ex_format, wday, isDay]
  repeat refine ⟨by first | omega | assumption | (simp only [maxLen]; omega) | (intros; omega) | decide, ?_⟩
  refine meet.of (date_Parse [50, 49, 57, 57, 45, 49, 50, 45, 51, 49]) ?_
  simp [ex_of1, ex_of2, ex_of3, ex_months1, ex_months2, ex_p1, ex_p2, ex_p3, ex_format, wday, isDay]
  repeat refine ⟨by first | omega | assumption | (simp only [maxLen]; omega) | (intros; omega) | decide, ?_⟩
  refine hK _ ?_
  clear hK K
  -- region 7
  refine AWp.rseq E_ok [0, 1, 2, 3, 4, 6, 7, 8, 10, 11, 12, 14, 16] fun K hK => ?_
  simp [ex_of1, ex_of2, ex_of3, ex_months1, ex_months2, ex_p1, ex_p2, ex_p3, ex_format, wday, isDay]
  repeat refine ⟨by first | omega | assumption | (simp only [maxLen]; omega) | (intros; omega) | decide, ?_⟩
  refine meet.of (date_Parse [50, 48, 50, 54, 45, 48, 50, 45, 51, 48]) ?_
  simp [ex_of1, ex_of2, ex_of3, ex_months1, ex_months2, ex_p1, ex_p2, ex_p3, ex_format, wday, isDay]
  repeat refine ⟨by first | omega | assumption | (simp only [maxLen]; omega) | (intros; omega) | decide, ?_⟩
  refine hK _ ?_
  clear hK K
  -- region 8
  refine AWp.rseq E_ok [0, 1, 2, 3, 4, 6, 7, 8, 10, 11, 12, 14, 16] fun K hK => ?_
  simp [ex_of1, ex_of2, ex_of3, ex_months1, ex_months2, ex_p1, ex_p2, ex_p3, ex_format, wday, isDay]
  repeat refine ⟨by first | omega | assumption | (simp only [maxLen]; omega) | (intros; omega) | decide, ?_⟩
  refine meet.of (date_Parse [50, 48, 50, 54, 45, 50, 45, 51]) ?_
  simp [ex_of1, ex_of2, ex_of3, ex_months1, ex_months2, ex_p1, ex_p2, ex_p3, ex_format, wday, isDay]
  repeat refine ⟨by first | omega | assumption | (simp only [maxLen]; omega) | (intros; omega) | decide, ?_⟩
  refine hK _ ?_
  clear hK K
  -- region 9
  refine AWp.rseq E_ok [0, 1, 2, 3, 4, 6, 7, 8, 10, 11, 12, 14, 16] fun K hK => ?_
  simp [ex_of1, ex_of2, ex_of3, ex_months1, ex_months2, ex_p1, ex_p2, ex_p3, ex_format, wday, isDay]
  repeat refine ⟨by first | omega | assumption | (simp only [maxLen]; omega) | (intros; omega) | decide, ?_⟩
  refine meet.of (date_Format 46340) ?_
  simp [ex_of1, ex_of2, ex_of3, ex_months1, ex_months2, ex_p1, ex_p2, ex_p3, ex_format, wday, isDay]
  repeat refine ⟨by first | omega | assumption | (simp only [maxLen]; omega) | (intros; omega) | decide, ?_⟩
  refine meet.of (date_Weekday 46340) ?_
  simp [ex_of1, ex_of2, ex_of3, ex_months1, ex_months2, ex_p1, ex_p2, ex_p3, ex_format, wday, isDay]
  repeat refine ⟨by first | omega | assumption | (simp only [maxLen]; omega) | (intros; omega) | decide, ?_⟩
  refine hK _ ?_
  clear hK K
  refine AWp.ret ?_
  repeat first | refine thenN ?_ | refine thenX ?_ | refine thenR ?_ | refine blockN ?_ | refine blockR ?_ | refine blockX ?_ | refine blockM rfl ?_
  simp [RetOk, RV, RVs]
end Go.Proofs.YtmofeikdaoknlaaDoor

set_option maxRecDepth 100000
set_option linter.unusedSimpArgs false
set_option linter.unusedVariables false
namespace Go.Proofs.YtmofeikdaoknlaaDoor
open Go Ab Pl
theorem ref03_Is (n : Int) : ACalls E.P 29 [.int .i64 n] (.d (.bool (isDay n))) := by
  refine ACalls.intro E_ok Tryd.func29 rfl rfl Tryd.ntmps29 Tryd.results29 (Nat.le_of_ble_eq_true rfl) fun hok base S0 w0 => ?_
  -- region 0
  refine AWp.rseq E_ok [0, 2] fun K hK => ?_
  simp
  repeat refine ⟨by first | omega | assumption | (simp only [maxLen]; omega) | (intros; omega) | decide, ?_⟩
  refine hK _ ?_
  clear hK K
  -- region 1
  refine AWp.rseq E_ok [0, 2] fun K hK => ?_
  simp
  repeat refine ⟨by first | omega | assumption | (simp only [maxLen]; omega) | (intros; omega) | decide, ?_⟩
  refine hK _ ?_
  clear hK K
  refine AWp.ret ?_
  repeat first | refine thenN ?_ | refine thenX ?_ | refine thenR ?_ | refine blockN ?_ | refine blockR ?_ | refine blockX ?_ | refine blockM rfl ?_
  simp [RetOk, RV, isDay]
end Go.Proofs.YtmofeikdaoknlaaDoor

set_option maxRecDepth 100000
set_option linter.unusedSimpArgs false
set_option linter.unusedVariables false
namespace Go.Proofs.YtmofeikdaoknlaaDoor
open Go Ab Pl
theorem ref03_Parts (day : Int) : ACalls E.P 14 [.int .i64 day] (.tup [.int .i64 (partsR day).1, .int .i64 (partsR day).2.1, .int .i64 (partsR day).2.2.1, .int .i64 (partsR day).2.2.2]) := by
  refine ACalls.intro E_ok Tryd.func14 rfl rfl Tryd.ntmps14 Tryd.results14 (Nat.le_of_ble_eq_true rfl) fun hok base S0 w0 => ?_
  -- region 0
  refine AWp.rseq E_ok [0, 2, 3, 4, 5, 6, 7, 10, 14, 25] fun K hK => ?_
  simp [isDay, ny_first, bef_first]
  try simp (disch := omega) only [wrap_i64]
  repeat refine ⟨by first | omega | assumption | (simp only [maxLen]; omega) | (intros; omega) | decide, ?_⟩
  refine hK _ ?_
  clear hK K
  refine AWp.seq ?_
  -- region 1
  refine AWp.rseq E_ok [0, 2, 3, 4, 5, 6, 7, 10, 14, 25] fun K hK => ?_
  simp [isDay, ny_first, bef_first]
  try simp (disch := omega) only [wrap_i64]
  repeat refine ⟨by first | omega | assumption | (simp only [maxLen]; omega) | (intros; omega) | decide, ?_⟩
  refine meet.of (ref03_Is day) ?_
  simp [isDay, ny_first, bef_first]
  try simp (disch := omega) only [wrap_i64]
  repeat refine ⟨by first | omega | assumption | (simp only [maxLen]; omega) | (intros; omega) | decide, ?_⟩
  refine hK _ ?_
  clear hK K
  refine AWp.cond rfl (fun h10 => ?_) (fun h10 => ?_)
  · try simp at h10
    -- region 2
    refine AWp.rseq E_ok [0, 2, 3, 4, 5, 6, 7, 10, 14, 25] fun K hK => ?_
    simp [isDay, ny_first, bef_first]
    try simp (disch := omega) only [wrap_i64]
    repeat refine ⟨by first | omega | assumption | (simp only [maxLen]; omega) | (intros; omega) | decide, ?_⟩
    refine hK _ ?_
    clear hK K
    refine AWp.ret ?_
    repeat first | refine thenN ?_ | refine thenX ?_ | refine thenR ?_ | refine blockN ?_ | refine blockR ?_ | refine blockX ?_ | refine blockM rfl ?_
    first | (rw [partsR_bad (by omega)]; simp [RetOk, RV, RVs]; done) | (rw [partsR_ok (by omega)]; simp [RetOk, RV, RVs, hp])
  · try simp at h10
    refine AWp.skip ?_
    repeat first | refine thenN ?_ | refine thenX ?_ | refine thenR ?_ | refine blockN ?_ | refine blockR ?_ | refine blockX ?_ | refine blockM rfl ?_
    -- region 3
    refine AWp.rseq E_ok [0, 2, 3, 4, 5, 6, 7, 10, 14, 25] fun K hK => ?_
    simp [isDay, ny_first, bef_first]
    try simp (disch := omega) only [wrap_i64]
    repeat refine ⟨by first | omega | assumption | (simp only [maxLen]; omega) | (intros; omega) | decide, ?_⟩
    refine hK _ ?_
    clear hK K
    refine AWp.seq ?_
    refine AWp.block ?_
    refine AWp.loop (ι := { y : Int // 1900 ≤ y ∧ y ≤ 2199 ∧ nyD y ≤ day }) (fun x => match x with | ⟨y, hy⟩ => [(0, T.val (.int .i64 (day - nyD y))), (6, T.val (.int .i64 y)), (7, T.val (D.int IntKind.i64 1))]) (fun x => match x with | ⟨y, hy⟩ => (2200 - y).toNat) ⟨1900, by omega, by omega, by rw [ny_first]; omega⟩ ?_ ?_
    · simp [Weak, TW, isDay, ny_first, bef_first]
    rintro ⟨y, hy⟩
    simp only
    try simp only at hy
    refine AWp.seq ?_
    -- region 4
    have yp := year_pos y
    have nr := ny_rng hy.1 (by omega)
    have st := ny_step hy.1 hy.2.1
    refine AWp.rseq E_ok [0, 2, 3, 4, 5, 6, 7, 10, 14, 25] fun K hK => ?_
    simp [isDay, ny_first, bef_first]
    try simp (disch := omega) only [wrap_i64]
    repeat refine ⟨by first | omega | assumption | (simp only [maxLen]; omega) | (intros; omega) | decide, ?_⟩
    refine meet.of (ref03_Year y (by omega)) ?_
    simp [isDay, ny_first, bef_first]
    try simp (disch := omega) only [wrap_i64]
    repeat refine ⟨by first | omega | assumption | (simp only [maxLen]; omega) | (intros; omega) | decide, ?_⟩
    refine hK _ ?_
    clear hK K
    refine AWp.cond rfl (fun h14 => ?_) (fun h14 => ?_)
    · try simp at h14
      refine AWp.skip ?_
      repeat first | refine thenN ?_ | refine thenX ?_ | refine thenR ?_ | refine blockN ?_ | refine blockR ?_ | refine blockX ?_ | refine blockM rfl ?_
      refine AWp.block ?_
      -- region 5
      refine AWp.rseq E_ok [0, 2, 3, 4, 5, 6, 7, 10, 14, 25] fun K hK => ?_
      simp [isDay, ny_first, bef_first]
      try simp (disch := omega) only [wrap_i64]
      repeat refine ⟨by first | omega | assumption | (simp only [maxLen]; omega) | (intros; omega) | decide, ?_⟩
      refine meet.of (ref03_Year y (by omega)) ?_
      simp [isDay, ny_first, bef_first]
      try simp (disch := omega) only [wrap_i64]
      repeat refine ⟨by first | omega | assumption | (simp only [maxLen]; omega) | (intros; omega) | decide, ?_⟩
      refine hK _ ?_
      clear hK K
      -- region 6
      refine AWp.rend E_ok [0, 2, 3, 4, 5, 6, 7, 10, 14, 25] fun K hK => ?_
      simp [isDay, ny_first, bef_first]
      try simp (disch := omega) only [wrap_i64]
      repeat refine ⟨by first | omega | assumption | (simp only [maxLen]; omega) | (intros; omega) | decide, ?_⟩
      refine hK _ ?_
      clear hK K
      repeat first | refine thenN ?_ | refine thenX ?_ | refine thenR ?_ | refine blockN ?_ | refine blockR ?_ | refine blockX ?_ | refine blockM rfl ?_
      have hy2 : y ≤ 2198 := by rcases (show y ≤ 2198 ∨ y = 2199 by omega) with hh | hh <;> first | exact hh | (exfalso; subst hh; rw [show (2199 : Int) + 1 = 2200 from rfl, ny_end] at st; omega)
      refine ⟨⟨y + 1, by omega, by omega, by omega⟩, ?_, by simp only; omega⟩
      try simp (disch := omega) only [wrap_i64]
      simp [Weak, TW, st]
      omega
    · try simp at h14
      have be := bef_end hy.1 hy.2.1
      refine AWp.exit ?_
      repeat first | refine thenN ?_ | refine thenX ?_ | refine thenR ?_ | refine blockN ?_ | refine blockR ?_ | refine blockX ?_ | refine blockM rfl ?_
      refine AWp.seq ?_
      refine AWp.block ?_
      refine AWp.loop (ι := { m : Int // 1 ≤ m ∧ m ≤ 12 ∧ befD y m ≤ day - nyD y }) (fun x => match x with | ⟨m, hm⟩ => [(0, T.val (.int .i64 (day - nyD y - befD y m))), (6, T.val (D.int IntKind.i64 y)), (7, T.val (.int .i64 m))]) (fun x => match x with | ⟨m, hm⟩ => (13 - m).toNat) ⟨1, by omega, by omega, by rw [bef_first]; omega⟩ ?_ ?_
      · simp [Weak, TW, isDay, ny_first, bef_first]
      rintro ⟨m, hm⟩
      simp only
      try simp only at hm
      refine AWp.seq ?_
      -- region 7
      have bm1 := bef_mono (y := y) (m := 1) (n := m) (by omega) (by omega) hm.1
      rw [bef_first] at bm1
      have ml := mlen_rng hy.1 hy.2.1 hm.1 hm.2.1
      refine AWp.rseq E_ok [0, 2, 3, 4, 5, 6, 7, 10, 14, 25] fun K hK => ?_
      simp [isDay, ny_first, bef_first]
      try simp (disch := omega) only [wrap_i64]
      repeat refine ⟨by first | omega | assumption | (simp only [maxLen]; omega) | (intros; omega) | decide, ?_⟩
      refine meet.of (ref03_Length y m) ?_
      simp [isDay, ny_first, bef_first]
      try simp (disch := omega) only [wrap_i64]
      repeat refine ⟨by first | omega | assumption | (simp only [maxLen]; omega) | (intros; omega) | decide, ?_⟩
      refine hK _ ?_
      clear hK K
      refine AWp.cond rfl (fun h25 => ?_) (fun h25 => ?_)
      · try simp at h25
        refine AWp.skip ?_
        repeat first | refine thenN ?_ | refine thenX ?_ | refine thenR ?_ | refine blockN ?_ | refine blockR ?_ | refine blockX ?_ | refine blockM rfl ?_
        refine AWp.block ?_
        -- region 8
        refine AWp.rseq E_ok [0, 2, 3, 4, 5, 6, 7, 10, 14, 25] fun K hK => ?_
        simp [isDay, ny_first, bef_first]
        try simp (disch := omega) only [wrap_i64]
        repeat refine ⟨by first | omega | assumption | (simp only [maxLen]; omega) | (intros; omega) | decide, ?_⟩
        refine meet.of (ref03_Length y m) ?_
        simp [isDay, ny_first, bef_first]
        try simp (disch := omega) only [wrap_i64]
        repeat refine ⟨by first | omega | assumption | (simp only [maxLen]; omega) | (intros; omega) | decide, ?_⟩
        refine hK _ ?_
        clear hK K
        -- region 9
        refine AWp.rend E_ok [0, 2, 3, 4, 5, 6, 7, 10, 14, 25] fun K hK => ?_
        simp [isDay, ny_first, bef_first]
        try simp (disch := omega) only [wrap_i64]
        repeat refine ⟨by first | omega | assumption | (simp only [maxLen]; omega) | (intros; omega) | decide, ?_⟩
        refine hK _ ?_
        clear hK K
        repeat first | refine thenN ?_ | refine thenX ?_ | refine thenR ?_ | refine blockN ?_ | refine blockR ?_ | refine blockX ?_ | refine blockM rfl ?_
        have sb := bef_step hy.1 hy.2.1 hm.1 hm.2.1
        have hm2 : m ≤ 11 := by rcases (show m ≤ 11 ∨ m = 12 by omega) with hh | hh <;> first | exact hh | (exfalso; subst hh; rw [show (12 : Int) + 1 = 13 from rfl, be] at sb; omega)
        refine ⟨⟨m + 1, by omega, by omega, by omega⟩, ?_, by simp only; omega⟩
        try simp (disch := omega) only [wrap_i64]
        simp [Weak, TW, sb]
        omega
      · try simp at h25
        have hp := parts_eq (parts_mk hy.1 hy.2.1 hm.1 hm.2.1 (day := day) (by omega) (by have := bef_step hy.1 hy.2.1 hm.1 hm.2.1; omega))
        refine AWp.exit ?_
        repeat first | refine thenN ?_ | refine thenX ?_ | refine thenR ?_ | refine blockN ?_ | refine blockR ?_ | refine blockX ?_ | refine blockM rfl ?_
        -- region 10
        refine AWp.rseq E_ok [0, 2, 3, 4, 5, 6, 7, 10, 14, 25] fun K hK => ?_
        simp [isDay, ny_first, bef_first]
        try simp (disch := omega) only [wrap_i64]
        repeat refine ⟨by first | omega | assumption | (simp only [maxLen]; omega) | (intros; omega) | decide, ?_⟩
        refine hK _ ?_
        clear hK K
        refine AWp.ret ?_
        repeat first | refine thenN ?_ | refine thenX ?_ | refine thenR ?_ | refine blockN ?_ | refine blockR ?_ | refine blockX ?_ | refine blockM rfl ?_
        first | (rw [partsR_bad (by omega)]; simp [RetOk, RV, RVs]; done) | (rw [partsR_ok (by omega)]; simp [RetOk, RV, RVs, hp])
end Go.Proofs.YtmofeikdaoknlaaDoor

set_option maxRecDepth 100000
set_option linter.unusedSimpArgs false
set_option linter.unusedVariables false
namespace Go.Proofs.YtmofeikdaoknlaaDoor
open Go Ab Pl
theorem ref03_Digits (n : Int) (w : Nat) (h0 : 0 ≤ n) (hw : w ≤ 10) : ACalls E.P 33 [.int .i64 n, .int .i64 (w : Int)] (.d (.str (digD n w))) := by
  refine ACalls.intro E_ok Tryd.func33 rfl rfl Tryd.ntmps33 Tryd.results33 (Nat.le_of_ble_eq_true rfl) fun hok base S0 w0 => ?_
  have hm := Ok_i64 (hok (.int .i64 n) (by simp))
  -- region 0
  refine AWp.rseq E_ok [0, 1, 4, 5, 6, 10] fun K hK => ?_
  simp
  try simp (disch := omega) only [wrap_i64]
  repeat refine ⟨by first | omega | assumption | (simp only [maxLen]; omega) | (intros; omega) | decide, ?_⟩
  refine hK _ ?_
  clear hK K
  -- region 1
  refine AWp.rseq E_ok [0, 1, 4, 5, 6, 10] fun K hK => ?_
  simp
  try simp (disch := omega) only [wrap_i64]
  repeat refine ⟨by first | omega | assumption | (simp only [maxLen]; omega) | (intros; omega) | decide, ?_⟩
  refine hK _ ?_
  clear hK K
  refine AWp.seq ?_
  -- region 2
  refine AWp.rseq E_ok [0, 1, 4, 5, 6, 10] fun K hK => ?_
  simp
  try simp (disch := omega) only [wrap_i64]
  repeat refine ⟨by first | omega | assumption | (simp only [maxLen]; omega) | (intros; omega) | decide, ?_⟩
  refine hK _ ?_
  clear hK K
  refine AWp.block ?_
  refine AWp.loop (ι := { x : Int × Nat × List UInt8 // (0 ≤ x.1 ∧ x.1 ≤ n) ∧ x.2.1 ≤ w ∧ x.2.2.length = x.2.1 ∧ digD x.1 (w - x.2.1) ++ x.2.2 = digD n w }) (fun x => match x with | ⟨⟨x, i, b⟩, ⟨hx, hxn⟩, hi, hl, hb⟩ => [(0, T.val (.int .i64 x)), (1, T.val (D.int IntKind.i64 ↑w)), (5, T.own true (.int .u8 0) (b.map fun c => .int .u8 (c.toNat : Int))), (6, T.val (.int .i64 i))]) (fun x => match x with | ⟨⟨x, i, b⟩, ⟨hx, hxn⟩, hi, hl, hb⟩ => w - i) ⟨(n, 0, []), ⟨h0, Int.le_refl _⟩, Nat.zero_le _, rfl, by simp⟩ ?_ ?_
  · simp [Weak, TW]
  rintro ⟨⟨x, i, b⟩, ⟨hx, hxn⟩, hi, hl, hb⟩
  simp only
  try simp only at hx
  try simp only at hxn
  try simp only at hi
  try simp only at hl
  try simp only at hb
  refine AWp.seq ?_
  -- region 3
  refine AWp.rseq E_ok [0, 1, 4, 5, 6, 10] fun K hK => ?_
  simp
  try simp (disch := omega) only [wrap_i64]
  repeat refine ⟨by first | omega | assumption | (simp only [maxLen]; omega) | (intros; omega) | decide, ?_⟩
  refine hK _ ?_
  clear hK K
  refine AWp.cond rfl (fun h10 => ?_) (fun h10 => ?_)
  · try simp at h10
    refine AWp.skip ?_
    repeat first | refine thenN ?_ | refine thenX ?_ | refine thenR ?_ | refine blockN ?_ | refine blockR ?_ | refine blockX ?_ | refine blockM rfl ?_
    refine AWp.seq ?_
    refine AWp.block ?_
    -- region 5
    refine AWp.rseq E_ok [0, 1, 4, 5, 6, 10] fun K hK => ?_
    simp
    try simp (disch := omega) only [wrap_i64]
    repeat refine ⟨by first | omega | assumption | (simp only [maxLen]; omega) | (intros; omega) | decide, ?_⟩
    refine hK _ ?_
    clear hK K
    -- region 6
    refine AWp.rend E_ok [0, 1, 4, 5, 6, 10] fun K hK => ?_
    simp
    try simp (disch := omega) only [wrap_i64]
    repeat refine ⟨by first | omega | assumption | (simp only [maxLen]; omega) | (intros; omega) | decide, ?_⟩
    refine hK _ ?_
    clear hK K
    repeat first | refine thenN ?_ | refine thenX ?_ | refine thenR ?_ | refine blockN ?_ | refine blockR ?_ | refine blockX ?_ | refine blockM rfl ?_
    -- region 4
    refine AWp.rend E_ok [0, 1, 4, 5, 6, 10] fun K hK => ?_
    simp
    try simp (disch := omega) only [wrap_i64]
    repeat refine ⟨by first | omega | assumption | (simp only [maxLen]; omega) | (intros; omega) | decide, ?_⟩
    refine hK _ ?_
    clear hK K
    repeat first | refine thenN ?_ | refine thenX ?_ | refine thenR ?_ | refine blockN ?_ | refine blockR ?_ | refine blockX ?_ | refine blockM rfl ?_
    have e1 : x.tdiv 10 = x / 10 := Int.tdiv_eq_ediv_of_nonneg hx
    have e2 : IntKind.i64.wrap (x / 10) = x / 10 := by rw [wrap_i64] <;> omega
    have e3 := digC_int hx
    have hb2 : digD (x / 10) (w - (i + 1)) ++ (digC x :: b) = digD n w := by rw [show w - i = (w - (i + 1)) + 1 by omega, digD] at hb; simpa using hb
    refine ⟨⟨(x / 10, i + 1, digC x :: b), ⟨by simp only; omega, by simp only; omega⟩, by simp only; omega, by simp [hl], hb2⟩, ?_, by dsimp only; omega⟩
    try dsimp only
    simp [Weak, TW, e1, e2, e3]
  · try simp at h10
    refine AWp.exit ?_
    repeat first | refine thenN ?_ | refine thenX ?_ | refine thenR ?_ | refine blockN ?_ | refine blockR ?_ | refine blockX ?_ | refine blockM rfl ?_
    -- region 7
    refine AWp.rseq E_ok [0, 1, 4, 5, 6, 10] fun K hK => ?_
    simp
    try simp (disch := omega) only [wrap_i64]
    repeat refine ⟨by first | omega | assumption | (simp only [maxLen]; omega) | (intros; omega) | decide, ?_⟩
    refine hK _ ?_
    clear hK K
    refine AWp.ret ?_
    repeat first | refine thenN ?_ | refine thenX ?_ | refine thenR ?_ | refine blockN ?_ | refine blockR ?_ | refine blockX ?_ | refine blockM rfl ?_
    obtain rfl : i = w := (by omega); simp [digD] at hb; simp [RetOk, RV, RVs, Function.comp_def, hb, map_byte]
end Go.Proofs.YtmofeikdaoknlaaDoor
