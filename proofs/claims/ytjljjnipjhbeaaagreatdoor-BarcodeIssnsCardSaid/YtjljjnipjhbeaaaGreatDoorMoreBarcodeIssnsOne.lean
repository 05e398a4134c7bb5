/-
  What the functions compute that the statement reaches: contracts, and the plain laws between them. Conditions stand at each theorem.
-/
import Derived.Test.YtjljjnipjhbeaaaGreatDoorWalkThree
set_option linter.unusedVariables false
set_option linter.unusedSimpArgs false
set_option maxRecDepth 100000
set_option linter.unusedSimpArgs false
set_option linter.unusedVariables false
namespace Go.Proofs.YtjljjnipjhbeaaaGreatDoor
open Go Ab Pl
theorem ref05_Digits (s : List UInt8) : ACalls E.P 24 [.str s] (.d (.bool (s.all isDig))) := by
  refine ACalls.intro E_ok Tryz.func24 rfl rfl Tryz.ntmps24 Tryz.results24 (Nat.le_of_ble_eq_true rfl) fun hok base S0 w0 => ?_
  have hl := Ok_str (hok (.str s) (by simp))
  -- region 0
  refine AWp.rseq E_ok [0, 2, 3, 7, 19] fun K hK => ?_
  simp
  repeat refine ⟨by first | omega | assumption | (simp only [maxLen]; omega) | (intros; omega) | decide, ?_⟩
  refine hK _ ?_
  clear hK K
  refine AWp.seq ?_
  -- region 1
  refine AWp.rseq E_ok [0, 2, 3, 7, 19] fun K hK => ?_
  simp
  repeat refine ⟨by first | omega | assumption | (simp only [maxLen]; omega) | (intros; omega) | decide, ?_⟩
  refine hK _ ?_
  clear hK K
  refine AWp.block ?_
  refine AWp.range (l := s) (F := digitsF) (tot := digitsF () s) (fun k y => match y with | () => True) (fun k y => match y with | () => [(0, T.val (D.str s)), (3, T.val (.int .i64 k))]) () ?_ rfl ?_ ?_
  · simp [Weak, TW]
  · first | exact trivial | (simp; omega) | simp
  rintro k ⟨⟩ hk hs hi
  try simp only at hi
  refine AWp.seq ?_
  -- region 2
  refine AWp.rseq E_ok [0, 2, 3, 7, 19] fun K hK => ?_
  simp
  repeat refine ⟨by first | omega | assumption | (simp only [maxLen]; omega) | (intros; omega) | decide, ?_⟩
  refine hK _ ?_
  clear hK K
  refine AWp.cond rfl (fun h7 => ?_) (fun h7 => ?_)
  · try simp at h7
    obtain ⟨x, hx, hxx, hd⟩ := at_indexG (l := s) h7
    rw [hd] at hs
    refine AWp.skip ?_
    repeat first | refine thenN ?_ | refine thenX ?_ | refine thenR ?_ | refine blockN ?_ | refine blockR ?_ | refine blockX ?_ | refine blockM rfl ?_
    refine AWp.seq ?_
    refine AWp.block ?_
    -- region 4
    refine AWp.rseq E_ok [0, 2, 3, 7, 19] fun K hK => ?_
    simp [h7, hx, hxx]
    repeat refine ⟨by first | omega | assumption | (simp only [maxLen]; omega) | (intros; omega) | decide, ?_⟩
    refine hK _ ?_
    clear hK K
    refine AWp.cond rfl (fun h19 => ?_) (fun h19 => ?_)
    · try simp at h19
      rw [digitsF, if_neg (by simp [isDig]; omega)] at hs
      -- region 5
      refine AWp.rseq E_ok [0, 2, 3, 7, 19] fun K hK => ?_
      simp [h7, hx, hxx]
      repeat refine ⟨by first | omega | assumption | (simp only [maxLen]; omega) | (intros; omega) | decide, ?_⟩
      refine hK _ ?_
      clear hK K
      refine AWp.ret ?_
      repeat first | refine thenN ?_ | refine thenX ?_ | refine thenR ?_ | refine blockN ?_ | refine blockR ?_ | refine blockX ?_ | refine blockM rfl ?_
      rw [digits_eq] at hs; simp [RetOk, RV, ← hs]
    · try simp at h19
      rw [digitsF, if_pos (by simp [isDig]; omega)] at hs
      refine AWp.skip ?_
      repeat first | refine thenN ?_ | refine thenX ?_ | refine thenR ?_ | refine blockN ?_ | refine blockR ?_ | refine blockX ?_ | refine blockM rfl ?_
      -- region 3
      refine AWp.rend E_ok [0, 2, 3, 7, 19] fun K hK => ?_
      simp [h7, hx, hxx]
      repeat refine ⟨by first | omega | assumption | (simp only [maxLen]; omega) | (intros; omega) | decide, ?_⟩
      refine hK _ ?_
      clear hK K
      repeat first | refine thenN ?_ | refine thenX ?_ | refine thenR ?_ | refine blockN ?_ | refine blockR ?_ | refine blockX ?_ | refine blockM rfl ?_
      have hw : IntKind.i64.wrap ((k : Int) + 1) = (k : Int) + 1 := by rw [wrap_i64] <;> omega
      skip
      refine ⟨_, h7, hs, ?_, ?_⟩
      · first | exact trivial | (simp; omega) | simp
      · simp [Weak, TW, hw]
  · try simp at h7
    obtain rfl : k = s.length := by omega
    simp [digitsF] at hs
    refine AWp.exit ?_
    repeat first | refine thenN ?_ | refine thenX ?_ | refine thenR ?_ | refine blockN ?_ | refine blockR ?_ | refine blockX ?_ | refine blockM rfl ?_
    -- region 6
    refine AWp.rseq E_ok [0, 2, 3, 7, 19] fun K hK => ?_
    simp [h7]
    repeat refine ⟨by first | omega | assumption | (simp only [maxLen]; omega) | (intros; omega) | decide, ?_⟩
    refine hK _ ?_
    clear hK K
    refine AWp.ret ?_
    repeat first | refine thenN ?_ | refine thenX ?_ | refine thenR ?_ | refine blockN ?_ | refine blockR ?_ | refine blockX ?_ | refine blockM rfl ?_
    rw [digits_eq] at hs; simp [RetOk, RV, ← hs]
end Go.Proofs.YtjljjnipjhbeaaaGreatDoor

set_option maxRecDepth 100000
set_option linter.unusedSimpArgs false
set_option linter.unusedVariables false
namespace Go.Proofs.YtjljjnipjhbeaaaGreatDoor
open Go Ab Pl
theorem ref05_ended (s : List UInt8) (hl : s.length ≤ 2000) : ACalls E.P 36 [.str s] (.d (.bool (endB s))) := by
  refine ACalls.intro E_ok Tryz.func36 rfl rfl Tryz.ntmps36 Tryz.results36 (Nat.le_of_ble_eq_true rfl) fun hok base S0 w0 => ?_
  -- region 0
  refine AWp.rseq E_ok [0, 2, 3] fun K hK => ?_
  simp
  repeat refine ⟨by first | omega | assumption | (simp only [maxLen]; omega) | (intros; omega) | decide, ?_⟩
  refine hK _ ?_
  clear hK K
  rcases List.eq_nil_or_concat s with he | ⟨l, b, he⟩
  · skip
    have hw9 : IntKind.i64.wrap (-1) = -1 := by rw [wrap_i64] <;> omega
    -- region 1
    refine AWp.rseq E_ok [0, 2, 3] fun K hK => ?_
    simp [he, hw9]
    repeat refine ⟨by first | omega | assumption | (simp only [maxLen]; omega) | (intros; omega) | decide, ?_⟩
    refine hK _ ?_
    clear hK K
    -- region 2
    refine AWp.rseq E_ok [0, 2, 3] fun K hK => ?_
    simp [he, hw9]
    repeat refine ⟨by first | omega | assumption | (simp only [maxLen]; omega) | (intros; omega) | decide, ?_⟩
    refine meet.of (ref05_Digits _) ?_
    simp [he, hw9]
    repeat refine ⟨by first | omega | assumption | (simp only [maxLen]; omega) | (intros; omega) | decide, ?_⟩
    refine meet.of (ref05_Digits _) ?_
    simp [he, hw9]
    repeat refine ⟨by first | omega | assumption | (simp only [maxLen]; omega) | (intros; omega) | decide, ?_⟩
    refine hK _ ?_
    clear hK K
    refine AWp.ret ?_
    repeat first | refine thenN ?_ | refine thenX ?_ | refine thenR ?_ | refine blockN ?_ | refine blockR ?_ | refine blockX ?_ | refine blockM rfl ?_
    first | (subst he; simp [RetOk, RV, endB]; done) | (simp [RetOk, RV, endB_concat, u8_88]; done)
  · skip
    simp only [List.concat_eq_append] at he
    subst he
    have hl2 : l.length ≤ 2000 := by simp at hl; omega
    have hwn : IntKind.i64.wrap (l.length : Int) = (l.length : Int) := by rw [wrap_i64] <;> omega
    -- region 1
    refine AWp.rseq E_ok [0, 2, 3] fun K hK => ?_
    simp [hwn]
    repeat refine ⟨by first | omega | assumption | (simp only [maxLen]; omega) | (intros; omega) | decide, ?_⟩
    refine hK _ ?_
    clear hK K
    -- region 2
    refine AWp.rseq E_ok [0, 2, 3] fun K hK => ?_
    simp [hwn]
    repeat refine ⟨by first | omega | assumption | (simp only [maxLen]; omega) | (intros; omega) | decide, ?_⟩
    refine meet.of (ref05_Digits _) ?_
    simp [hwn]
    repeat refine ⟨by first | omega | assumption | (simp only [maxLen]; omega) | (intros; omega) | decide, ?_⟩
    refine meet.of (ref05_Digits _) ?_
    simp [hwn]
    repeat refine ⟨by first | omega | assumption | (simp only [maxLen]; omega) | (intros; omega) | decide, ?_⟩
    refine hK _ ?_
    clear hK K
    refine AWp.ret ?_
    repeat first | refine thenN ?_ | refine thenX ?_ | refine thenR ?_ | refine blockN ?_ | refine blockR ?_ | refine blockX ?_ | refine blockM rfl ?_
    first | (subst he; simp [RetOk, RV, endB]; done) | (simp [RetOk, RV, endB_concat, u8_88]; done)
end Go.Proofs.YtjljjnipjhbeaaaGreatDoor

set_option maxRecDepth 100000
set_option linter.unusedSimpArgs false
set_option linter.unusedVariables false
namespace Go.Proofs.YtjljjnipjhbeaaaGreatDoor
open Go Ab Pl
theorem ref05_weighted (s : List UInt8) (hl : s.length ≤ 2000) (he : endB s = true) : ACalls E.P 37 [.str s] (.d (.int .i64 (wgtR s))) := by
  refine ACalls.intro E_ok Tryz.func37 rfl rfl Tryz.ntmps37 Tryz.results37 (Nat.le_of_ble_eq_true rfl) fun hok base S0 w0 => ?_
  -- region 0
  refine AWp.rseq E_ok [0, 2, 3, 4, 5, 9, 15] fun K hK => ?_
  simp
  try simp (disch := omega) only [wrap_i64]
  repeat refine ⟨by first | omega | assumption | (simp only [maxLen]; omega) | (intros; omega) | decide, ?_⟩
  refine hK _ ?_
  clear hK K
  -- region 1
  refine AWp.rseq E_ok [0, 2, 3, 4, 5, 9, 15] fun K hK => ?_
  simp
  try simp (disch := omega) only [wrap_i64]
  repeat refine ⟨by first | omega | assumption | (simp only [maxLen]; omega) | (intros; omega) | decide, ?_⟩
  refine hK _ ?_
  clear hK K
  refine AWp.seq ?_
  -- region 2
  refine AWp.rseq E_ok [0, 2, 3, 4, 5, 9, 15] fun K hK => ?_
  simp
  try simp (disch := omega) only [wrap_i64]
  repeat refine ⟨by first | omega | assumption | (simp only [maxLen]; omega) | (intros; omega) | decide, ?_⟩
  refine hK _ ?_
  clear hK K
  refine AWp.block ?_
  refine AWp.range (l := s) (F := wgtF) (tot := wgtF 0 s) (fun k y => match y with | c => 0 ≤ c ∧ c ≤ 20000 * (k : Int)) (fun k y => match y with | c => [(0, T.val (D.str s)), (3, T.val (.int .i64 c)), (4, T.val (.int .i64 k))]) (0) ?_ rfl ?_ ?_
  · simp [Weak, TW]
  · simp
  rintro k c hk hs hi
  try simp only at hi
  refine AWp.seq ?_
  -- region 3
  refine AWp.rseq E_ok [0, 2, 3, 4, 5, 9, 15] fun K hK => ?_
  simp
  try simp (disch := omega) only [wrap_i64]
  repeat refine ⟨by first | omega | assumption | (simp only [maxLen]; omega) | (intros; omega) | decide, ?_⟩
  refine hK _ ?_
  clear hK K
  refine AWp.cond rfl (fun h9 => ?_) (fun h9 => ?_)
  · try simp at h9
    obtain ⟨x, hx, hxx, hd⟩ := at_indexG (l := s) h9
    rw [hd] at hs
    have hdl : ((List.drop (k + 1) s).length : Int) + 1 = (s.length : Int) - (k : Int) := by rw [List.length_drop]; omega
    obtain ⟨w, hw0⟩ : ∃ w, (s.length : Int) - (k : Int) = w := ⟨_, rfl⟩
    have hwr : 1 ≤ w ∧ w ≤ 2000 := by omega
    have hxd := endB_mem he (List.mem_of_getElem? hx)
    refine AWp.skip ?_
    repeat first | refine thenN ?_ | refine thenX ?_ | refine thenR ?_ | refine blockN ?_ | refine blockR ?_ | refine blockX ?_ | refine blockM rfl ?_
    refine AWp.seq ?_
    refine AWp.block ?_
    -- region 5
    refine AWp.rseq E_ok [0, 2, 3, 4, 5, 9, 15] fun K hK => ?_
    simp [h9, hw0, hx, hxx]
    try simp (disch := omega) only [wrap_i64]
    repeat refine ⟨by first | omega | assumption | (simp only [maxLen]; omega) | (intros; omega) | decide, ?_⟩
    refine hK _ ?_
    clear hK K
    refine AWp.seq ?_
    -- region 6
    refine AWp.rseq E_ok [0, 2, 3, 4, 5, 9, 15] fun K hK => ?_
    simp [h9, hw0, hx, hxx]
    try simp (disch := omega) only [wrap_i64]
    repeat refine ⟨by first | omega | assumption | (simp only [maxLen]; omega) | (intros; omega) | decide, ?_⟩
    refine hK _ ?_
    clear hK K
    refine AWp.cond rfl (fun h15 => ?_) (fun h15 => ?_)
    · try simp at h15
      have h88 : ¬ x = 88 := by first | exact h15 | (intro e; subst e; simp at h15)
      have hdg : isDig x = true := hxd.resolve_right h88
      have hdw := dB_wrap hdg
      have hdr := dB_rng hdg
      obtain ⟨pr, hpr⟩ : ∃ z, dB x * w = z := ⟨_, rfl⟩
      have hpr0 : 0 ≤ pr := by rw [← hpr]; exact Int.mul_nonneg hdr.1 (by omega)
      have hpr1 : pr ≤ 9 * w := by rw [← hpr]; exact Int.mul_le_mul_of_nonneg_right hdr.2 (by omega)
      rw [wgtF, dX, if_neg h88, hdl, hw0, hpr] at hs
      -- region 7
      refine AWp.rend E_ok [0, 2, 3, 4, 5, 9, 15] fun K hK => ?_
      simp [h9, hw0, hx, hxx, hpr, hdw]
      try simp (disch := omega) only [wrap_i64]
      repeat refine ⟨by first | omega | assumption | (simp only [maxLen]; omega) | (intros; omega) | decide, ?_⟩
      refine hK _ ?_
      clear hK K
      repeat first | refine thenN ?_ | refine thenX ?_ | refine thenR ?_ | refine blockN ?_ | refine blockR ?_ | refine blockX ?_ | refine blockM rfl ?_
      -- region 8
      refine AWp.rend E_ok [0, 2, 3, 4, 5, 9, 15] fun K hK => ?_
      simp [h9, hw0, hx, hxx, hpr, hdw]
      try simp (disch := omega) only [wrap_i64]
      repeat refine ⟨by first | omega | assumption | (simp only [maxLen]; omega) | (intros; omega) | decide, ?_⟩
      refine hK _ ?_
      clear hK K
      repeat first | refine thenN ?_ | refine thenX ?_ | refine thenR ?_ | refine blockN ?_ | refine blockR ?_ | refine blockX ?_ | refine blockM rfl ?_
      -- region 4
      refine AWp.rend E_ok [0, 2, 3, 4, 5, 9, 15] fun K hK => ?_
      simp [h9, hw0, hx, hxx, hpr, hdw]
      try simp (disch := omega) only [wrap_i64]
      repeat refine ⟨by first | omega | assumption | (simp only [maxLen]; omega) | (intros; omega) | decide, ?_⟩
      refine hK _ ?_
      clear hK K
      repeat first | refine thenN ?_ | refine thenX ?_ | refine thenR ?_ | refine blockN ?_ | refine blockR ?_ | refine blockX ?_ | refine blockM rfl ?_
      have hw : IntKind.i64.wrap ((k : Int) + 1) = (k : Int) + 1 := by rw [wrap_i64] <;> omega
      skip
      refine ⟨_, h9, hs, ?_, ?_⟩
      · omega
      · simp [Weak, TW, hw] <;> omega
    · try simp at h15
      have h88 : x = 88 := nat_u8 (y := 88) h15
      rw [wgtF, dX, if_pos h88, hdl, hw0] at hs
      refine AWp.skip ?_
      repeat first | refine thenN ?_ | refine thenX ?_ | refine thenR ?_ | refine blockN ?_ | refine blockR ?_ | refine blockX ?_ | refine blockM rfl ?_
      -- region 8
      refine AWp.rend E_ok [0, 2, 3, 4, 5, 9, 15] fun K hK => ?_
      simp [h9, hw0, hx, hxx]
      try simp (disch := omega) only [wrap_i64]
      repeat refine ⟨by first | omega | assumption | (simp only [maxLen]; omega) | (intros; omega) | decide, ?_⟩
      refine hK _ ?_
      clear hK K
      repeat first | refine thenN ?_ | refine thenX ?_ | refine thenR ?_ | refine blockN ?_ | refine blockR ?_ | refine blockX ?_ | refine blockM rfl ?_
      -- region 4
      refine AWp.rend E_ok [0, 2, 3, 4, 5, 9, 15] fun K hK => ?_
      simp [h9, hw0, hx, hxx]
      try simp (disch := omega) only [wrap_i64]
      repeat refine ⟨by first | omega | assumption | (simp only [maxLen]; omega) | (intros; omega) | decide, ?_⟩
      refine hK _ ?_
      clear hK K
      repeat first | refine thenN ?_ | refine thenX ?_ | refine thenR ?_ | refine blockN ?_ | refine blockR ?_ | refine blockX ?_ | refine blockM rfl ?_
      have hw : IntKind.i64.wrap ((k : Int) + 1) = (k : Int) + 1 := by rw [wrap_i64] <;> omega
      skip
      refine ⟨_, h9, hs, ?_, ?_⟩
      · omega
      · simp [Weak, TW, hw] <;> omega
  · try simp at h9
    obtain rfl : k = s.length := by omega
    simp [wgtF] at hs
    refine AWp.exit ?_
    repeat first | refine thenN ?_ | refine thenX ?_ | refine thenR ?_ | refine blockN ?_ | refine blockR ?_ | refine blockX ?_ | refine blockM rfl ?_
    -- region 9
    refine AWp.rseq E_ok [0, 2, 3, 4, 5, 9, 15] fun K hK => ?_
    simp [h9]
    try simp (disch := omega) only [wrap_i64]
    repeat refine ⟨by first | omega | assumption | (simp only [maxLen]; omega) | (intros; omega) | decide, ?_⟩
    refine hK _ ?_
    clear hK K
    refine AWp.ret ?_
    repeat first | refine thenN ?_ | refine thenX ?_ | refine thenR ?_ | refine blockN ?_ | refine blockR ?_ | refine blockX ?_ | refine blockM rfl ?_
    simp [RetOk, RV, wgtR, ← hs]
end Go.Proofs.YtjljjnipjhbeaaaGreatDoor

set_option maxRecDepth 100000
set_option linter.unusedSimpArgs false
set_option linter.unusedVariables false
namespace Go.Proofs.YtjljjnipjhbeaaaGreatDoor
open Go Ab Pl
theorem ref05_Issn (s : List UInt8) (hl : s.length ≤ 2000) : ACalls E.P 22 [.str s] (.tup [.str (issnR s).1, .int .i64 (issnR s).2]) := by
  refine ACalls.intro E_ok Tryz.func22 rfl rfl Tryz.ntmps22 Tryz.results22 (Nat.le_of_ble_eq_true rfl) fun hok base S0 w0 => ?_
  -- region 0
  refine AWp.rseq E_ok [0, 2, 3, 4, 13, 26, 30] fun K hK => ?_
  simp
  repeat refine ⟨by first | omega | assumption | (simp only [maxLen]; omega) | (intros; omega) | decide, ?_⟩
  refine hK _ ?_
  clear hK K
  -- region 1
  refine AWp.rseq E_ok [0, 2, 3, 4, 13, 26, 30] fun K hK => ?_
  simp
  repeat refine ⟨by first | omega | assumption | (simp only [maxLen]; omega) | (intros; omega) | decide, ?_⟩
  refine hK _ ?_
  clear hK K
  refine AWp.seq ?_
  rcases Decidable.em (s.length = 9) with hL | hL
  · skip
    have h4l : 4 < s.length := by omega
    obtain ⟨c, hc0⟩ : ∃ b, s[4]? = some b := ⟨s[4], by simp⟩
    have hc1 : s[4]'h4l = c := (List.getElem?_eq_some_iff.1 hc0).2
    have hg4 : s.getD 4 0 = c := by rw [List.getD_eq_getElem?_getD, hc0]; rfl
    -- region 2
    refine AWp.rseq E_ok [0, 2, 3, 4, 13, 26, 30] fun K hK => ?_
    simp [hL, hc0, hc1]
    repeat refine ⟨by first | omega | assumption | (simp only [maxLen]; omega) | (intros; omega) | decide, ?_⟩
    refine hK _ ?_
    clear hK K
    refine AWp.cond rfl (fun h13 => ?_) (fun h13 => ?_)
    · try simp at h13
      have hcc : c = 45 := nat_u8 (y := 45) (by simpa using h13)
      obtain ⟨u, hu⟩ : ∃ u, s.take 4 ++ s.drop 5 = u := ⟨_, rfl⟩
      have hT : issT s = u := by rw [← hu]; exact if_pos ⟨hL, by rw [hg4, hcc]⟩
      have hul : u.length = 8 := by rw [← hu]; simp; omega
      -- region 3
      refine AWp.rendQ E_ok mixed [0, 2, 3, 4, 13, 26, 30] (by kernel_rfl) fun K hK => ?_
      simp [hL, hc0, hc1, hu]
      repeat refine ⟨by first | omega | assumption | (simp only [maxLen]; omega) | (intros; omega) | decide, ?_⟩
      refine hK _ ?_
      clear hK K
      repeat first | refine thenN ?_ | refine thenX ?_ | refine thenR ?_ | refine blockN ?_ | refine blockR ?_ | refine blockX ?_ | refine blockM rfl ?_
      refine AWp.seq ?_
      -- region 4
      refine AWp.rseq E_ok [0, 2, 3, 4, 13, 26, 30] fun K hK => ?_
      simp [hL, hc0, hc1, hu]
      repeat refine ⟨by first | omega | assumption | (simp only [maxLen]; omega) | (intros; omega) | decide, ?_⟩
      refine meet.of (ref05_ended u (by omega)) ?_
      simp [hL, hc0, hc1, hu]
      repeat refine ⟨by first | omega | assumption | (simp only [maxLen]; omega) | (intros; omega) | decide, ?_⟩
      refine hK _ ?_
      clear hK K
      refine AWp.cond rfl (fun h26 => ?_) (fun h26 => ?_)
      · try simp at h26
        have hb : issnR s = ([], 3) := by unfold issnR; rw [hT, if_pos (by rcases h26 with h | h <;> first | exact .inl (by omega) | exact .inr h)]
        -- region 5
        refine AWp.rseq E_ok [0, 2, 3, 4, 13, 26, 30] fun K hK => ?_
        simp [hL, hc0, hc1, hu]
        repeat refine ⟨by first | omega | assumption | (simp only [maxLen]; omega) | (intros; omega) | decide, ?_⟩
        refine hK _ ?_
        clear hK K
        refine AWp.ret ?_
        repeat first | refine thenN ?_ | refine thenX ?_ | refine thenR ?_ | refine blockN ?_ | refine blockR ?_ | refine blockX ?_ | refine blockM rfl ?_
        simp [RetOk, RV, RVs, hb]
      · try simp at h26
        have hE : endB u = true := by simpa using h26.2
        have hnn := wgt_nn hE
        have t11 : (wgtR u).tmod 11 = wgtR u % 11 := Int.tmod_eq_emod_of_nonneg hnn
        have hwb := wgt_big hE
        refine AWp.skip ?_
        repeat first | refine thenN ?_ | refine thenX ?_ | refine thenR ?_ | refine blockN ?_ | refine blockR ?_ | refine blockX ?_ | refine blockM rfl ?_
        refine AWp.seq ?_
        -- region 6
        refine AWp.rseq E_ok [0, 2, 3, 4, 13, 26, 30] fun K hK => ?_
        simp [hL, hc0, hc1, hu, t11]
        repeat refine ⟨by first | omega | assumption | (simp only [maxLen]; omega) | (intros; omega) | decide, ?_⟩
        refine meet.of (ref05_weighted u (by omega) hE) ?_
        simp [hL, hc0, hc1, hu, t11]
        repeat refine ⟨by first | omega | assumption | (simp only [maxLen]; omega) | (intros; omega) | decide, ?_⟩
        refine hK _ ?_
        clear hK K
        refine AWp.cond rfl (fun h30 => ?_) (fun h30 => ?_)
        · try simp at h30
          have hb : issnR s = ([], 5) := by unfold issnR; rw [hT, if_neg (by rw [hE]; rintro (h | h); exact h (by omega); cases h), if_pos (by simpa using h30)]
          -- region 7
          refine AWp.rseq E_ok [0, 2, 3, 4, 13, 26, 30] fun K hK => ?_
          simp [hL, hc0, hc1, hu, t11]
          repeat refine ⟨by first | omega | assumption | (simp only [maxLen]; omega) | (intros; omega) | decide, ?_⟩
          refine hK _ ?_
          clear hK K
          refine AWp.ret ?_
          repeat first | refine thenN ?_ | refine thenX ?_ | refine thenR ?_ | refine blockN ?_ | refine blockR ?_ | refine blockX ?_ | refine blockM rfl ?_
          simp [RetOk, RV, RVs, hb]
        · try simp at h30
          have hb : issnR s = (u.take 4 ++ [45] ++ u.drop 4, 0) := by unfold issnR; rw [hT, if_neg (by rw [hE]; rintro (h | h); exact h (by omega); cases h), if_neg (by simpa using h30)]
          refine AWp.skip ?_
          repeat first | refine thenN ?_ | refine thenX ?_ | refine thenR ?_ | refine blockN ?_ | refine blockR ?_ | refine blockX ?_ | refine blockM rfl ?_
          -- region 8
          refine AWp.rseqQ E_ok mixed [0, 2, 3, 4, 13, 26, 30] (by kernel_rfl) fun K hK => ?_
          simp [hL, hc0, hc1, hu, t11]
          repeat refine ⟨by first | omega | assumption | (simp only [maxLen]; omega) | (intros; omega) | decide, ?_⟩
          refine hK _ ?_
          clear hK K
          refine AWp.ret ?_
          repeat first | refine thenN ?_ | refine thenX ?_ | refine thenR ?_ | refine blockN ?_ | refine blockR ?_ | refine blockX ?_ | refine blockM rfl ?_
          simp [RetOk, RV, RVs, hb]
    · try simp at h13
      obtain ⟨u, hu⟩ : ∃ u, s = u := ⟨_, rfl⟩
      have hT : issT s = u := by first | exact (if_neg (fun h => hL h.1)).trans hu | exact (if_neg (fun h => by have h2 := h.2; rw [hg4] at h2; subst h2; simp at h13)).trans hu
      have hul : u.length ≤ 2000 := by rw [← hu]; exact hl
      refine AWp.skip ?_
      repeat first | refine thenN ?_ | refine thenX ?_ | refine thenR ?_ | refine blockN ?_ | refine blockR ?_ | refine blockX ?_ | refine blockM rfl ?_
      refine AWp.seq ?_
      -- region 4
      refine AWp.rseq E_ok [0, 2, 3, 4, 13, 26, 30] fun K hK => ?_
      simp [hL, hc0, hc1, hu]
      repeat refine ⟨by first | omega | assumption | (simp only [maxLen]; omega) | (intros; omega) | decide, ?_⟩
      refine meet.of (ref05_ended u (by omega)) ?_
      simp [hL, hc0, hc1, hu]
      repeat refine ⟨by first | omega | assumption | (simp only [maxLen]; omega) | (intros; omega) | decide, ?_⟩
      refine hK _ ?_
      clear hK K
      refine AWp.cond rfl (fun h26 => ?_) (fun h26 => ?_)
      · try simp at h26
        have hb : issnR s = ([], 3) := by unfold issnR; rw [hT, if_pos (by rcases h26 with h | h <;> first | exact .inl (by omega) | exact .inr h)]
        -- region 5
        refine AWp.rseq E_ok [0, 2, 3, 4, 13, 26, 30] fun K hK => ?_
        simp [hL, hc0, hc1, hu]
        repeat refine ⟨by first | omega | assumption | (simp only [maxLen]; omega) | (intros; omega) | decide, ?_⟩
        refine hK _ ?_
        clear hK K
        refine AWp.ret ?_
        repeat first | refine thenN ?_ | refine thenX ?_ | refine thenR ?_ | refine blockN ?_ | refine blockR ?_ | refine blockX ?_ | refine blockM rfl ?_
        simp [RetOk, RV, RVs, hb]
      · try simp at h26
        have hE : endB u = true := by simpa using h26.2
        have hnn := wgt_nn hE
        have t11 : (wgtR u).tmod 11 = wgtR u % 11 := Int.tmod_eq_emod_of_nonneg hnn
        have hwb := wgt_big hE
        refine AWp.skip ?_
        repeat first | refine thenN ?_ | refine thenX ?_ | refine thenR ?_ | refine blockN ?_ | refine blockR ?_ | refine blockX ?_ | refine blockM rfl ?_
        refine AWp.seq ?_
        -- region 6
        refine AWp.rseq E_ok [0, 2, 3, 4, 13, 26, 30] fun K hK => ?_
        simp [hL, hc0, hc1, hu, t11]
        repeat refine ⟨by first | omega | assumption | (simp only [maxLen]; omega) | (intros; omega) | decide, ?_⟩
        refine meet.of (ref05_weighted u (by omega) hE) ?_
        simp [hL, hc0, hc1, hu, t11]
        repeat refine ⟨by first | omega | assumption | (simp only [maxLen]; omega) | (intros; omega) | decide, ?_⟩
        refine hK _ ?_
        clear hK K
        refine AWp.cond rfl (fun h30 => ?_) (fun h30 => ?_)
        · try simp at h30
          have hb : issnR s = ([], 5) := by unfold issnR; rw [hT, if_neg (by rw [hE]; rintro (h | h); exact h (by omega); cases h), if_pos (by simpa using h30)]
          -- region 7
          refine AWp.rseq E_ok [0, 2, 3, 4, 13, 26, 30] fun K hK => ?_
          simp [hL, hc0, hc1, hu, t11]
          repeat refine ⟨by first | omega | assumption | (simp only [maxLen]; omega) | (intros; omega) | decide, ?_⟩
          refine hK _ ?_
          clear hK K
          refine AWp.ret ?_
          repeat first | refine thenN ?_ | refine thenX ?_ | refine thenR ?_ | refine blockN ?_ | refine blockR ?_ | refine blockX ?_ | refine blockM rfl ?_
          simp [RetOk, RV, RVs, hb]
        · try simp at h30
          have hb : issnR s = (u.take 4 ++ [45] ++ u.drop 4, 0) := by unfold issnR; rw [hT, if_neg (by rw [hE]; rintro (h | h); exact h (by omega); cases h), if_neg (by simpa using h30)]
          refine AWp.skip ?_
          repeat first | refine thenN ?_ | refine thenX ?_ | refine thenR ?_ | refine blockN ?_ | refine blockR ?_ | refine blockX ?_ | refine blockM rfl ?_
          -- region 8
          refine AWp.rseqQ E_ok mixed [0, 2, 3, 4, 13, 26, 30] (by kernel_rfl) fun K hK => ?_
          simp [hL, hc0, hc1, hu, t11]
          repeat refine ⟨by first | omega | assumption | (simp only [maxLen]; omega) | (intros; omega) | decide, ?_⟩
          refine hK _ ?_
          clear hK K
          refine AWp.ret ?_
          repeat first | refine thenN ?_ | refine thenX ?_ | refine thenR ?_ | refine blockN ?_ | refine blockR ?_ | refine blockX ?_ | refine blockM rfl ?_
          simp [RetOk, RV, RVs, hb]
  · skip
    have hLn : ((s.length : Int) == 9) = false := by simp; omega
    -- region 2
    refine AWp.rseq E_ok [0, 2, 3, 4, 13, 26, 30] fun K hK => ?_
    simp [hLn]
    repeat refine ⟨by first | omega | assumption | (simp only [maxLen]; omega) | (intros; omega) | decide, ?_⟩
    refine hK _ ?_
    clear hK K
    refine AWp.cond rfl (fun h13 => ?_) (fun h13 => ?_)
    · exact absurd h13 (by simp)
    · try simp at h13
      obtain ⟨u, hu⟩ : ∃ u, s = u := ⟨_, rfl⟩
      have hT : issT s = u := by first | exact (if_neg (fun h => hL h.1)).trans hu | exact (if_neg (fun h => by have h2 := h.2; rw [hg4] at h2; subst h2; simp at h13)).trans hu
      have hul : u.length ≤ 2000 := by rw [← hu]; exact hl
      refine AWp.skip ?_
      repeat first | refine thenN ?_ | refine thenX ?_ | refine thenR ?_ | refine blockN ?_ | refine blockR ?_ | refine blockX ?_ | refine blockM rfl ?_
      refine AWp.seq ?_
      -- region 4
      refine AWp.rseq E_ok [0, 2, 3, 4, 13, 26, 30] fun K hK => ?_
      simp [hLn, hu]
      repeat refine ⟨by first | omega | assumption | (simp only [maxLen]; omega) | (intros; omega) | decide, ?_⟩
      refine meet.of (ref05_ended u (by omega)) ?_
      simp [hLn, hu]
      repeat refine ⟨by first | omega | assumption | (simp only [maxLen]; omega) | (intros; omega) | decide, ?_⟩
      refine hK _ ?_
      clear hK K
      refine AWp.cond rfl (fun h26 => ?_) (fun h26 => ?_)
      · try simp at h26
        have hb : issnR s = ([], 3) := by unfold issnR; rw [hT, if_pos (by rcases h26 with h | h <;> first | exact .inl (by omega) | exact .inr h)]
        -- region 5
        refine AWp.rseq E_ok [0, 2, 3, 4, 13, 26, 30] fun K hK => ?_
        simp [hLn, hu]
        repeat refine ⟨by first | omega | assumption | (simp only [maxLen]; omega) | (intros; omega) | decide, ?_⟩
        refine hK _ ?_
        clear hK K
        refine AWp.ret ?_
        repeat first | refine thenN ?_ | refine thenX ?_ | refine thenR ?_ | refine blockN ?_ | refine blockR ?_ | refine blockX ?_ | refine blockM rfl ?_
        simp [RetOk, RV, RVs, hb]
      · try simp at h26
        have hE : endB u = true := by simpa using h26.2
        have hnn := wgt_nn hE
        have t11 : (wgtR u).tmod 11 = wgtR u % 11 := Int.tmod_eq_emod_of_nonneg hnn
        have hwb := wgt_big hE
        refine AWp.skip ?_
        repeat first | refine thenN ?_ | refine thenX ?_ | refine thenR ?_ | refine blockN ?_ | refine blockR ?_ | refine blockX ?_ | refine blockM rfl ?_
        refine AWp.seq ?_
        -- region 6
        refine AWp.rseq E_ok [0, 2, 3, 4, 13, 26, 30] fun K hK => ?_
        simp [hLn, hu, t11]
        repeat refine ⟨by first | omega | assumption | (simp only [maxLen]; omega) | (intros; omega) | decide, ?_⟩
        refine meet.of (ref05_weighted u (by omega) hE) ?_
        simp [hLn, hu, t11]
        repeat refine ⟨by first | omega | assumption | (simp only [maxLen]; omega) | (intros; omega) | decide, ?_⟩
        refine hK _ ?_
        clear hK K
        refine AWp.cond rfl (fun h30 => ?_) (fun h30 => ?_)
        · try simp at h30
          have hb : issnR s = ([], 5) := by unfold issnR; rw [hT, if_neg (by rw [hE]; rintro (h | h); exact h (by omega); cases h), if_pos (by simpa using h30)]
          -- region 7
          refine AWp.rseq E_ok [0, 2, 3, 4, 13, 26, 30] fun K hK => ?_
          simp [hLn, hu, t11]
          repeat refine ⟨by first | omega | assumption | (simp only [maxLen]; omega) | (intros; omega) | decide, ?_⟩
          refine hK _ ?_
          clear hK K
          refine AWp.ret ?_
          repeat first | refine thenN ?_ | refine thenX ?_ | refine thenR ?_ | refine blockN ?_ | refine blockR ?_ | refine blockX ?_ | refine blockM rfl ?_
          simp [RetOk, RV, RVs, hb]
        · try simp at h30
          have hb : issnR s = (u.take 4 ++ [45] ++ u.drop 4, 0) := by unfold issnR; rw [hT, if_neg (by rw [hE]; rintro (h | h); exact h (by omega); cases h), if_neg (by simpa using h30)]
          refine AWp.skip ?_
          repeat first | refine thenN ?_ | refine thenX ?_ | refine thenR ?_ | refine blockN ?_ | refine blockR ?_ | refine blockX ?_ | refine blockM rfl ?_
          -- region 8
          refine AWp.rseqQ E_ok mixed [0, 2, 3, 4, 13, 26, 30] (by kernel_rfl) fun K hK => ?_
          simp [hLn, hu, t11]
          repeat refine ⟨by first | omega | assumption | (simp only [maxLen]; omega) | (intros; omega) | decide, ?_⟩
          refine hK _ ?_
          clear hK K
          refine AWp.ret ?_
          repeat first | refine thenN ?_ | refine thenX ?_ | refine thenR ?_ | refine blockN ?_ | refine blockR ?_ | refine blockX ?_ | refine blockM rfl ?_
          simp [RetOk, RV, RVs, hb]
end Go.Proofs.YtjljjnipjhbeaaaGreatDoor

set_option maxRecDepth 100000
set_option linter.unusedSimpArgs false
set_option linter.unusedVariables false
namespace Go.Proofs.YtjljjnipjhbeaaaGreatDoor
open Go Ab Pl
theorem law05_BarcodeIssns (s : List UInt8) : ACalls E.P 7 [.str s] (.d (.bool true)) := by
  refine ACalls.intro E_ok Tryz.func7 rfl rfl Tryz.ntmps7 Tryz.results7 (Nat.le_of_ble_eq_true rfl) fun hok base S0 w0 => ?_
  -- region 0
  refine AWp.rseq E_ok [0, 2, 3, 4, 5, 6, 9] fun K hK => ?_
  simp
  repeat refine ⟨by first | omega | assumption | (simp only [maxLen]; omega) | (intros; omega) | decide, ?_⟩
  refine hK _ ?_
  clear hK K
  refine AWp.seq ?_
  -- region 1
  refine AWp.rseq E_ok [0, 2, 3, 4, 5, 6, 9] fun K hK => ?_
  simp
  repeat refine ⟨by first | omega | assumption | (simp only [maxLen]; omega) | (intros; omega) | decide, ?_⟩
  refine hK _ ?_
  clear hK K
  refine AWp.cond rfl (fun h9 => ?_) (fun h9 => ?_)
  · try simp at h9
    -- region 2
    refine AWp.rseq E_ok [0, 2, 3, 4, 5, 6, 9] fun K hK => ?_
    simp [h9]
    repeat refine ⟨by first | omega | assumption | (simp only [maxLen]; omega) | (intros; omega) | decide, ?_⟩
    refine meet.of (law05_alive) ?_
    simp [h9]
    repeat refine ⟨by first | omega | assumption | (simp only [maxLen]; omega) | (intros; omega) | decide, ?_⟩
    refine hK _ ?_
    clear hK K
    refine AWp.ret ?_
    repeat first | refine thenN ?_ | refine thenX ?_ | refine thenR ?_ | refine blockN ?_ | refine blockR ?_ | refine blockX ?_ | refine blockM rfl ?_
    simp [RetOk, RV]
  · try simp at h9
    refine AWp.skip ?_
    repeat first | refine thenN ?_ | refine thenX ?_ | refine thenR ?_ | refine blockN ?_ | refine blockR ?_ | refine blockX ?_ | refine blockM rfl ?_
    -- region 3
    refine AWp.rseq E_ok [0, 2, 3, 4, 5, 6, 9] fun K hK => ?_
    simp [h9]
    repeat refine ⟨by first | omega | assumption | (simp only [maxLen]; omega) | (intros; omega) | decide, ?_⟩
    refine meet.of (barcode_Issn s (by omega)) ?_
    simp [h9]
    repeat refine ⟨by first | omega | assumption | (simp only [maxLen]; omega) | (intros; omega) | decide, ?_⟩
    refine hK _ ?_
    clear hK K
    -- region 4
    refine AWp.rseq E_ok [0, 2, 3, 4, 5, 6, 9] fun K hK => ?_
    simp [h9]
    repeat refine ⟨by first | omega | assumption | (simp only [maxLen]; omega) | (intros; omega) | decide, ?_⟩
    refine meet.of (ref05_Issn s (by omega)) ?_
    simp [h9]
    repeat refine ⟨by first | omega | assumption | (simp only [maxLen]; omega) | (intros; omega) | decide, ?_⟩
    refine hK _ ?_
    clear hK K
    -- region 5
    refine AWp.rseq E_ok [0, 2, 3, 4, 5, 6, 9] fun K hK => ?_
    simp [h9]
    repeat refine ⟨by first | omega | assumption | (simp only [maxLen]; omega) | (intros; omega) | decide, ?_⟩
    refine meet.of (law05_alive) ?_
    simp [h9]
    repeat refine ⟨by first | omega | assumption | (simp only [maxLen]; omega) | (intros; omega) | decide, ?_⟩
    refine hK _ ?_
    clear hK K
    refine AWp.ret ?_
    repeat first | refine thenN ?_ | refine thenX ?_ | refine thenR ?_ | refine blockN ?_ | refine blockR ?_ | refine blockX ?_ | refine blockM rfl ?_
    simp [RetOk, RV]
end Go.Proofs.YtjljjnipjhbeaaaGreatDoor
