/-
  What the functions compute that the statement reaches: contracts, and the plain laws between them. Conditions stand at each theorem.
-/
import Derived.Test.YtmofeikdaoknlaaDoorWalkTwo
set_option linter.unusedVariables false
set_option linter.unusedSimpArgs false
set_option maxRecDepth 100000
set_option linter.unusedSimpArgs false
set_option linter.unusedVariables false
namespace Go.Proofs.YtmofeikdaoknlaaDoor
open Go Ab Pl
theorem law03_DateSteps (day n : Int) : ACalls E.P 9 [.int .i64 day, .int .i64 n] (.d (.bool true)) := by
  refine ACalls.intro E_ok Tryd.func9 rfl rfl Tryd.ntmps9 Tryd.results9 (Nat.le_of_ble_eq_true rfl) fun hok base S0 w0 => ?_
  -- region 0
  refine AWp.rseq E_ok [0, 1, 4, 5, 6, 7, 8, 9, 11, 12, 13, 14, 15, 17, 31, 57] fun K hK => ?_
  simp
  try simp (disch := omega) only [wrap_i64]
  repeat refine ⟨by first | omega | assumption | (simp only [maxLen]; omega) | (intros; omega) | decide, ?_⟩
  refine hK _ ?_
  clear hK K
  refine AWp.seq ?_
  -- region 1
  refine AWp.rseq E_ok [0, 1, 4, 5, 6, 7, 8, 9, 11, 12, 13, 14, 15, 17, 31, 57] fun K hK => ?_
  simp
  try simp (disch := omega) only [wrap_i64]
  repeat refine ⟨by first | omega | assumption | (simp only [maxLen]; omega) | (intros; omega) | decide, ?_⟩
  refine meet.of (law03_alive) ?_
  simp
  try simp (disch := omega) only [wrap_i64]
  repeat refine ⟨by first | omega | assumption | (simp only [maxLen]; omega) | (intros; omega) | decide, ?_⟩
  refine hK _ ?_
  clear hK K
  refine AWp.cond rfl (fun h17 => ?_) (fun h17 => ?_)
  · exact absurd h17 (by simp)
  · try simp at h17
    refine AWp.skip ?_
    repeat first | refine thenN ?_ | refine thenX ?_ | refine thenR ?_ | refine blockN ?_ | refine blockR ?_ | refine blockX ?_ | refine blockM rfl ?_
    refine AWp.seq ?_
    -- region 3
    refine AWp.rseq E_ok [0, 1, 4, 5, 6, 7, 8, 9, 11, 12, 13, 14, 15, 17, 31, 57] fun K hK => ?_
    simp
    try simp (disch := omega) only [wrap_i64]
    repeat refine ⟨by first | omega | assumption | (simp only [maxLen]; omega) | (intros; omega) | decide, ?_⟩
    refine hK _ ?_
    clear hK K
    refine AWp.cond rfl (fun h31 => ?_) (fun h31 => ?_)
    · try simp at h31
      -- region 4
      refine AWp.rseq E_ok [0, 1, 4, 5, 6, 7, 8, 9, 11, 12, 13, 14, 15, 17, 31, 57] fun K hK => ?_
      simp
      try simp (disch := omega) only [wrap_i64]
      repeat refine ⟨by first | omega | assumption | (simp only [maxLen]; omega) | (intros; omega) | decide, ?_⟩
      refine hK _ ?_
      clear hK K
      refine AWp.ret ?_
      repeat first | refine thenN ?_ | refine thenX ?_ | refine thenR ?_ | refine blockN ?_ | refine blockR ?_ | refine blockX ?_ | refine blockM rfl ?_
      first | (simp [RetOk, RV, RVs]; done) | (simp [RetOk, RV, RVs, hb]; done) | (simp [RetOk, RV, RVs, hs.1]; omega)
    · try simp at h31
      have hk : 0 ≤ day ∧ day ≤ 109572 := by omega
      have hpr := partsR_ok hk
      have hi := parts_in (parts_is hk.1 hk.2)
      have hkk : 12 * (partsP day).y + (partsP day).m - 1 + n = monK day n := rfl
      refine AWp.skip ?_
      repeat first | refine thenN ?_ | refine thenX ?_ | refine thenR ?_ | refine blockN ?_ | refine blockR ?_ | refine blockX ?_ | refine blockM rfl ?_
      -- region 5
      refine AWp.rseq E_ok [0, 1, 4, 5, 6, 7, 8, 9, 11, 12, 13, 14, 15, 17, 31, 57] fun K hK => ?_
      simp [hpr, hkk]
      try simp (disch := omega) only [wrap_i64]
      repeat refine ⟨by first | omega | assumption | (simp only [maxLen]; omega) | (intros; omega) | decide, ?_⟩
      refine meet.of (date_Months day n) ?_
      simp [hpr, hkk]
      try simp (disch := omega) only [wrap_i64]
      repeat refine ⟨by first | omega | assumption | (simp only [maxLen]; omega) | (intros; omega) | decide, ?_⟩
      refine hK _ ?_
      clear hK K
      -- region 6
      refine AWp.rseq E_ok [0, 1, 4, 5, 6, 7, 8, 9, 11, 12, 13, 14, 15, 17, 31, 57] fun K hK => ?_
      simp [hpr, hkk]
      try simp (disch := omega) only [wrap_i64]
      repeat refine ⟨by first | omega | assumption | (simp only [maxLen]; omega) | (intros; omega) | decide, ?_⟩
      refine meet.of (date_Parts day) ?_
      simp [hpr, hkk]
      try simp (disch := omega) only [wrap_i64]
      repeat refine ⟨by first | omega | assumption | (simp only [maxLen]; omega) | (intros; omega) | decide, ?_⟩
      refine hK _ ?_
      clear hK K
      -- region 7
      refine AWp.rseq E_ok [0, 1, 4, 5, 6, 7, 8, 9, 11, 12, 13, 14, 15, 17, 31, 57] fun K hK => ?_
      simp [hpr, hkk]
      try simp (disch := omega) only [wrap_i64]
      repeat refine ⟨by first | omega | assumption | (simp only [maxLen]; omega) | (intros; omega) | decide, ?_⟩
      refine hK _ ?_
      clear hK K
      refine AWp.seq ?_
      -- region 8
      refine AWp.rseq E_ok [0, 1, 4, 5, 6, 7, 8, 9, 11, 12, 13, 14, 15, 17, 31, 57] fun K hK => ?_
      simp [hpr, hkk]
      try simp (disch := omega) only [wrap_i64]
      repeat refine ⟨by first | omega | assumption | (simp only [maxLen]; omega) | (intros; omega) | decide, ?_⟩
      refine hK _ ?_
      clear hK K
      refine AWp.cond rfl (fun h57 => ?_) (fun h57 => ?_)
      · try simp at h57
        have hb := months_b (day := day) (n := n) ⟨hk, by omega, by omega⟩ (by omega)
        -- region 9
        refine AWp.rseq E_ok [0, 1, 4, 5, 6, 7, 8, 9, 11, 12, 13, 14, 15, 17, 31, 57] fun K hK => ?_
        simp [hpr, hkk, hb]
        try simp (disch := omega) only [wrap_i64]
        repeat refine ⟨by first | omega | assumption | (simp only [maxLen]; omega) | (intros; omega) | decide, ?_⟩
        refine hK _ ?_
        clear hK K
        refine AWp.ret ?_
        repeat first | refine thenN ?_ | refine thenX ?_ | refine thenR ?_ | refine blockN ?_ | refine blockR ?_ | refine blockX ?_ | refine blockM rfl ?_
        first | (simp [RetOk, RV, RVs]; done) | (simp [RetOk, RV, RVs, hb]; done) | (simp [RetOk, RV, RVs, hs.1]; omega)
      · try simp at h57
        have hs := steps_ok (day := day) (n := n) ⟨hk, by omega, by omega⟩ (by omega)
        have hpq := partsR_ok hs.2.1
        have hj := parts_in (parts_is hs.2.1.1 hs.2.1.2)
        refine AWp.skip ?_
        repeat first | refine thenN ?_ | refine thenX ?_ | refine thenR ?_ | refine blockN ?_ | refine blockR ?_ | refine blockX ?_ | refine blockM rfl ?_
        -- region 10
        refine AWp.rseq E_ok [0, 1, 4, 5, 6, 7, 8, 9, 11, 12, 13, 14, 15, 17, 31, 57] fun K hK => ?_
        simp [hpr, hkk, hpq]
        try simp (disch := omega) only [wrap_i64]
        repeat refine ⟨by first | omega | assumption | (simp only [maxLen]; omega) | (intros; omega) | decide, ?_⟩
        refine meet.of (date_Parts (monthsR day n).1) ?_
        simp [hpr, hkk, hpq]
        try simp (disch := omega) only [wrap_i64]
        repeat refine ⟨by first | omega | assumption | (simp only [maxLen]; omega) | (intros; omega) | decide, ?_⟩
        refine hK _ ?_
        clear hK K
        -- region 11
        refine AWp.rseq E_ok [0, 1, 4, 5, 6, 7, 8, 9, 11, 12, 13, 14, 15, 17, 31, 57] fun K hK => ?_
        simp [hpr, hkk, hpq]
        try simp (disch := omega) only [wrap_i64]
        repeat refine ⟨by first | omega | assumption | (simp only [maxLen]; omega) | (intros; omega) | decide, ?_⟩
        refine meet.of (date_Length (partsP (monthsR day n).1).y (partsP (monthsR day n).1).m) ?_
        simp [hpr, hkk, hpq]
        try simp (disch := omega) only [wrap_i64]
        repeat refine ⟨by first | omega | assumption | (simp only [maxLen]; omega) | (intros; omega) | decide, ?_⟩
        refine hK _ ?_
        clear hK K
        refine AWp.ret ?_
        repeat first | refine thenN ?_ | refine thenX ?_ | refine thenR ?_ | refine blockN ?_ | refine blockR ?_ | refine blockX ?_ | refine blockM rfl ?_
        first | (simp [RetOk, RV, RVs]; done) | (simp [RetOk, RV, RVs, hb]; done) | (simp [RetOk, RV, RVs, hs.1]; omega)
end Go.Proofs.YtmofeikdaoknlaaDoor

set_option maxRecDepth 100000
set_option linter.unusedSimpArgs false
set_option linter.unusedVariables false
namespace Pl
end Pl
namespace Go.Proofs.YtmofeikdaoknlaaDoor
open Go Ab Pl
theorem open_int : Opens Tryd.prog 3 (fun n => [D.int .i64 n]) (fun n => IntKind.min .i64 ≤ n ∧ n ≤ IntKind.max .i64) := Opens.int Tryd.underlying3
theorem openV_int : OpensV Tryd.prog 3 (fun n => D.int .i64 n) (fun n => IntKind.min .i64 ≤ n ∧ n ≤ IntKind.max .i64) := Opens.one open_int (cells_int' Tryd.underlying3)
theorem open_api_Errno : Opens Tryd.prog 22 (fun n => [D.int .i64 n]) (fun n => IntKind.min .i64 ≤ n ∧ n ≤ IntKind.max .i64) := Opens.int Tryd.underlying22
theorem openV_api_Errno : OpensV Tryd.prog 22 (fun n => D.int .i64 n) (fun n => IntKind.min .i64 ≤ n ∧ n ≤ IntKind.max .i64) := Opens.one open_api_Errno (cells_int' Tryd.underlying22)
theorem open_uint8 : Opens Tryd.prog 5 (fun n => [D.int .u8 n]) (fun n => IntKind.min .u8 ≤ n ∧ n ≤ IntKind.max .u8) := Opens.int Tryd.underlying5
theorem openV_uint8 : OpensV Tryd.prog 5 (fun n => D.int .u8 n) (fun n => IntKind.min .u8 ≤ n ∧ n ≤ IntKind.max .u8) := Opens.one open_uint8 (cells_int' Tryd.underlying5)
theorem open_bool : Opens Tryd.prog 4 (fun b => [D.bool b]) (fun _ => True) := Opens.bool Tryd.underlying4
theorem openV_bool : OpensV Tryd.prog 4 (fun b => D.bool b) (fun _ => True) := Opens.one open_bool (cells_bool' Tryd.underlying4)
theorem open_string : Opens Tryd.prog 9 (fun s => [D.str s]) (fun s => s.length ≤ Go.maxLen) := Opens.str Tryd.underlying9
theorem openV_string : OpensV Tryd.prog 9 (fun s => D.str s) (fun s => s.length ≤ Go.maxLen) := Opens.one open_string (cells_str' Tryd.underlying9)
theorem open_s_int : Opens Tryd.prog 38 (fun l : List Int => [encInts l]) (fun l => l.length ≤ Go.maxLen) :=
  (Opens.slice Tryd.underlying38 (by kernel_rfl) (by decide) open_int (D.int .i64) (fun _ => rfl) (.int .i64 0) rfl).map id (fun _ => rfl) (fun _ h => h.2)
theorem openV_s_int : OpensV Tryd.prog 38 encInts (fun l => l.length ≤ Go.maxLen) := Opens.one open_s_int (cells_slice' Tryd.underlying38)

end Go.Proofs.YtmofeikdaoknlaaDoor
