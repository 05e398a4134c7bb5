/-
  What the functions compute that the statement reaches: contracts, and the plain laws between them. Conditions stand at each theorem.
-/
import Derived.Test.YtjljjnipjhbeaaaGreatDoorWalkThree
set_option linter.unusedVariables false
set_option linter.unusedSimpArgs false
set_option maxRecDepth 100000
set_option linter.unusedSimpArgs false
set_option linter.unusedVariables false
namespace Go.Proofs.YtjljjnipjhbeaaaGreatDoor
open Go Ab Pl
theorem ref05_Digits (s : List UInt8) : ACalls E.P 24 [.str s] (.d (.bool (s.all isDig))) := by
  refine ACalls.intro E_ok Tryz.func24 rfl rfl Tryz.ntmps24 Tryz.results24 (Nat.le_of_ble_eq_true rfl) fun hok base S0 w0 => ?_
  have hl := Ok_str (hok (.str s) (by simp))
  -- region 0
  refine AWp.rseq E_ok [0, 2, 3, 7, 19] fun K hK => ?_
  simp
  repeat refine ⟨by first | omega | assumption | (simp only [maxLen]; omega) | (intros; omega) | decide, ?_⟩
  refine hK _ ?_
  clear hK K
  refine AWp.seq ?_
  -- region 1
  refine AWp.rseq E_ok [0, 2, 3, 7, 19] fun K hK => ?_
  simp
  repeat refine ⟨by first | omega | assumption | (simp only [maxLen]; omega) | (intros; omega) | decide, ?_⟩
  refine hK _ ?_
  clear hK K
  refine AWp.block ?_
  refine AWp.range (l := s) (F := digitsF) (tot := digitsF () s) (fun k y => match y with | () => True) (fun k y => match y with | () => [(0, T.val (D.str s)), (3, T.val (.int .i64 k))]) () ?_ rfl ?_ ?_
  · simp [Weak, TW]
  · first | exact trivial | (simp; omega) | simp
  rintro k ⟨⟩ hk hs hi
  try simp only at hi
  refine AWp.seq ?_
  -- region 2
  refine AWp.rseq E_ok [0, 2, 3, 7, 19] fun K hK => ?_
  simp
  repeat refine ⟨by first | omega | assumption | (simp only [maxLen]; omega) | (intros; omega) | decide, ?_⟩
  refine hK _ ?_
  clear hK K
  refine AWp.cond rfl (fun h7 => ?_) (fun h7 => ?_)
  · try simp at h7
    obtain ⟨x, hx, hxx, hd⟩ := at_indexG (l := s) h7
    rw [hd] at hs
    refine AWp.skip ?_
    repeat first | refine thenN ?_ | refine thenX ?_ | refine thenR ?_ | refine blockN ?_ | refine blockR ?_ | refine blockX ?_ | refine blockM rfl ?_
    refine AWp.seq ?_
    refine AWp.block ?_
    -- region 4
    refine AWp.rseq E_ok [0, 2, 3, 7, 19] fun K hK => ?_
    simp [h7, hx, hxx]
    repeat refine ⟨by first | omega | assumption | (simp only [maxLen]; omega) | (intros; omega) | decide, ?_⟩
    refine hK _ ?_
    clear hK K
    refine AWp.cond rfl (fun h19 => ?_) (fun h19 => ?_)
    · try simp at h19
      rw [digitsF, if_neg (by simp [isDig]; omega)] at hs
      -- region 5
      refine AWp.rseq E_ok [0, 2, 3, 7, 19] fun K hK => ?_
      simp [h7, hx, hxx]
      repeat refine ⟨by first | omega | assumption | (simp only [maxLen]; omega) | (intros; omega) | decide, ?_⟩
      refine hK _ ?_
      clear hK K
      refine AWp.ret ?_
      repeat first | refine thenN ?_ | refine thenX ?_ | refine thenR ?_ | refine blockN ?_ | refine blockR ?_ | refine blockX ?_ | refine blockM rfl ?_
      rw [digits_eq] at hs; simp [RetOk, RV, ← hs]
    · try simp at h19
      rw [digitsF, if_pos (by simp [isDig]; omega)] at hs
      refine AWp.skip ?_
      repeat first | refine thenN ?_ | refine thenX ?_ | refine thenR ?_ | refine blockN ?_ | refine blockR ?_ | refine blockX ?_ | refine blockM rfl ?_
      -- region 3
      refine AWp.rend E_ok [0, 2, 3, 7, 19] fun K hK => ?_
      simp [h7, hx, hxx]
      repeat refine ⟨by first | omega | assumption | (simp only [maxLen]; omega) | (intros; omega) | decide, ?_⟩
      refine hK _ ?_
      clear hK K
      repeat first | refine thenN ?_ | refine thenX ?_ | refine thenR ?_ | refine blockN ?_ | refine blockR ?_ | refine blockX ?_ | refine blockM rfl ?_
      have hw : IntKind.i64.wrap ((k : Int) + 1) = (k : Int) + 1 := by rw [wrap_i64] <;> omega
      skip
      refine ⟨_, h7, hs, ?_, ?_⟩
      · first | exact trivial | (simp; omega) | simp
      · simp [Weak, TW, hw]
  · try simp at h7
    obtain rfl : k = s.length := by omega
    simp [digitsF] at hs
    refine AWp.exit ?_
    repeat first | refine thenN ?_ | refine thenX ?_ | refine thenR ?_ | refine blockN ?_ | refine blockR ?_ | refine blockX ?_ | refine blockM rfl ?_
    -- region 6
    refine AWp.rseq E_ok [0, 2, 3, 7, 19] fun K hK => ?_
    simp [h7]
    repeat refine ⟨by first | omega | assumption | (simp only [maxLen]; omega) | (intros; omega) | decide, ?_⟩
    refine hK _ ?_
    clear hK K
    refine AWp.ret ?_
    repeat first | refine thenN ?_ | refine thenX ?_ | refine thenR ?_ | refine blockN ?_ | refine blockR ?_ | refine blockX ?_ | refine blockM rfl ?_
    rw [digits_eq] at hs; simp [RetOk, RV, ← hs]
end Go.Proofs.YtjljjnipjhbeaaaGreatDoor

set_option maxRecDepth 100000
set_option linter.unusedSimpArgs false
set_option linter.unusedVariables false
namespace Go.Proofs.YtjljjnipjhbeaaaGreatDoor
open Go Ab Pl
theorem ref05_luhn (s : List UInt8) (hall : s.all isDig = true) (hlr : s.length ≤ 1000) : ACalls E.P 25 [.str s] (.d (.int .i64 (luhN s))) := by
  refine ACalls.intro E_ok Tryz.func25 rfl rfl Tryz.ntmps25 Tryz.results25 (Nat.le_of_ble_eq_true rfl) fun hok base S0 w0 => ?_
  -- region 0
  refine AWp.rseq E_ok [0, 2, 3, 4, 5, 9, 23] fun K hK => ?_
  simp
  try simp (disch := omega) only [wrap_i64]
  repeat refine ⟨by first | omega | assumption | (simp only [maxLen]; omega) | (intros; omega) | decide, ?_⟩
  refine hK _ ?_
  clear hK K
  -- region 1
  refine AWp.rseq E_ok [0, 2, 3, 4, 5, 9, 23] fun K hK => ?_
  simp
  try simp (disch := omega) only [wrap_i64]
  repeat refine ⟨by first | omega | assumption | (simp only [maxLen]; omega) | (intros; omega) | decide, ?_⟩
  refine hK _ ?_
  clear hK K
  refine AWp.seq ?_
  -- region 2
  refine AWp.rseq E_ok [0, 2, 3, 4, 5, 9, 23] fun K hK => ?_
  simp
  try simp (disch := omega) only [wrap_i64]
  repeat refine ⟨by first | omega | assumption | (simp only [maxLen]; omega) | (intros; omega) | decide, ?_⟩
  refine hK _ ?_
  clear hK K
  refine AWp.block ?_
  refine AWp.range (l := s.reverse) (F := luhF) (tot := luhF (true, 0) s.reverse) (fun k y => match y with | (t, c) => 0 ≤ c ∧ c ≤ 9 * (k : Int) ∧ t = decide ((k : Int) % 2 = 0)) (fun k y => match y with | (t, c) => [(0, T.val (D.str s)), (3, T.val (.int .i64 c)), (4, T.val (.int .i64 (k : Int)))]) (true, 0) ?_ rfl ?_ ?_
  · simp [Weak, TW]
  · simp
  rintro k ⟨t, c⟩ hk hs hi
  try simp only at hi
  refine AWp.seq ?_
  -- region 3
  refine AWp.rseq E_ok [0, 2, 3, 4, 5, 9, 23] fun K hK => ?_
  simp
  try simp (disch := omega) only [wrap_i64]
  repeat refine ⟨by first | omega | assumption | (simp only [maxLen]; omega) | (intros; omega) | decide, ?_⟩
  refine hK _ ?_
  clear hK K
  refine AWp.cond rfl (fun h9 => ?_) (fun h9 => ?_)
  · try simp at h9
    have hlt : k < s.reverse.length := by rw [List.length_reverse]; omega
    obtain ⟨x, hx, hxx, hd⟩ := at_indexG (l := s.reverse) hlt
    rw [hd] at hs
    have hjk : s.length - 1 - k < s.length := by omega
    have hje : ((s.length : Int) - 1 - (k : Int)).toNat = s.length - 1 - k := by omega
    have hj1 : s[s.length - 1 - k]? = some x := by have := hx; rw [List.getElem?_reverse (by omega)] at this; exact this
    have hj2 : s[s.length - 1 - k]'hjk = x := (List.getElem?_eq_some_iff.1 hj1).2
    have hdx : isDig x = true := List.all_eq_true.1 hall x (List.mem_of_getElem? hj1)
    have hdr := dB_rng hdx
    have hdw := dB_wrap hdx
    have htr := twD_rng hdr
    have e0 : (dB x * 2).tdiv 10 = 2 * dB x / 10 := by rw [Int.tdiv_eq_ediv_of_nonneg (by omega)]; omega
    have e1 : (dB x * 2).tmod 10 = 2 * dB x % 10 := by rw [Int.tmod_eq_emod_of_nonneg (by omega)]; omega
    have e2 : (0 : Int) ≤ (s.length : Int) - 1 - (k : Int) := by omega
    have e3 : (s.length : Int) - 1 - (k : Int) < (s.length : Int) := by omega
    have e4 : ((k : Int)).tmod 2 = (k : Int) % 2 := Int.tmod_eq_emod_of_nonneg (by omega)
    refine AWp.skip ?_
    repeat first | refine thenN ?_ | refine thenX ?_ | refine thenR ?_ | refine blockN ?_ | refine blockR ?_ | refine blockX ?_ | refine blockM rfl ?_
    refine AWp.seq ?_
    refine AWp.block ?_
    -- region 5
    refine AWp.rseq E_ok [0, 2, 3, 4, 5, 9, 23] fun K hK => ?_
    simp [h9, hje, hj1, hj2, hdw, e0, e1, e2, e3, e4, hx, hxx]
    try simp (disch := omega) only [wrap_i64]
    repeat refine ⟨by first | omega | assumption | (simp only [maxLen]; omega) | (intros; omega) | decide, ?_⟩
    refine hK _ ?_
    clear hK K
    refine AWp.seq ?_
    -- region 6
    refine AWp.rseq E_ok [0, 2, 3, 4, 5, 9, 23] fun K hK => ?_
    simp [h9, hje, hj1, hj2, hdw, e0, e1, e2, e3, e4, hx, hxx]
    try simp (disch := omega) only [wrap_i64]
    repeat refine ⟨by first | omega | assumption | (simp only [maxLen]; omega) | (intros; omega) | decide, ?_⟩
    refine hK _ ?_
    clear hK K
    refine AWp.cond rfl (fun h23 => ?_) (fun h23 => ?_)
    · try simp at h23
      obtain rfl : t = true := by have := hi.2.2; rw [this]; simp; omega
      rw [luhF, if_pos rfl] at hs
      -- region 7
      refine AWp.rseq E_ok [0, 2, 3, 4, 5, 9, 23] fun K hK => ?_
      simp [h9, hje, hj1, hj2, hdw, e0, e1, e2, e3, e4, hx, hxx]
      try simp (disch := omega) only [wrap_i64]
      repeat refine ⟨by first | omega | assumption | (simp only [maxLen]; omega) | (intros; omega) | decide, ?_⟩
      refine hK _ ?_
      clear hK K
      -- region 8
      refine AWp.rend E_ok [0, 2, 3, 4, 5, 9, 23] fun K hK => ?_
      simp [h9, hje, hj1, hj2, hdw, e0, e1, e2, e3, e4, hx, hxx]
      try simp (disch := omega) only [wrap_i64]
      repeat refine ⟨by first | omega | assumption | (simp only [maxLen]; omega) | (intros; omega) | decide, ?_⟩
      refine hK _ ?_
      clear hK K
      repeat first | refine thenN ?_ | refine thenX ?_ | refine thenR ?_ | refine blockN ?_ | refine blockR ?_ | refine blockX ?_ | refine blockM rfl ?_
      -- region 9
      refine AWp.rend E_ok [0, 2, 3, 4, 5, 9, 23] fun K hK => ?_
      simp [h9, hje, hj1, hj2, hdw, e0, e1, e2, e3, e4, hx, hxx]
      try simp (disch := omega) only [wrap_i64]
      repeat refine ⟨by first | omega | assumption | (simp only [maxLen]; omega) | (intros; omega) | decide, ?_⟩
      refine hK _ ?_
      clear hK K
      repeat first | refine thenN ?_ | refine thenX ?_ | refine thenR ?_ | refine blockN ?_ | refine blockR ?_ | refine blockX ?_ | refine blockM rfl ?_
      -- region 4
      refine AWp.rend E_ok [0, 2, 3, 4, 5, 9, 23] fun K hK => ?_
      simp [h9, hje, hj1, hj2, hdw, e0, e1, e2, e3, e4, hx, hxx]
      try simp (disch := omega) only [wrap_i64]
      repeat refine ⟨by first | omega | assumption | (simp only [maxLen]; omega) | (intros; omega) | decide, ?_⟩
      refine hK _ ?_
      clear hK K
      repeat first | refine thenN ?_ | refine thenX ?_ | refine thenR ?_ | refine blockN ?_ | refine blockR ?_ | refine blockX ?_ | refine blockM rfl ?_
      have hw : IntKind.i64.wrap ((k : Int) + 1) = (k : Int) + 1 := by rw [wrap_i64] <;> omega
      skip
      refine ⟨_, hlt, hs, ?_, ?_⟩
      · exact ⟨by omega, by omega, by simp; omega⟩
      · simp [Weak, TW, hw, twD] <;> omega
    · try simp at h23
      obtain rfl : t = false := by have := hi.2.2; rw [this]; simp; omega
      rw [luhF, if_neg (by decide)] at hs
      refine AWp.skip ?_
      repeat first | refine thenN ?_ | refine thenX ?_ | refine thenR ?_ | refine blockN ?_ | refine blockR ?_ | refine blockX ?_ | refine blockM rfl ?_
      -- region 9
      refine AWp.rend E_ok [0, 2, 3, 4, 5, 9, 23] fun K hK => ?_
      simp [h9, hje, hj1, hj2, hdw, e0, e1, e2, e3, e4, hx, hxx]
      try simp (disch := omega) only [wrap_i64]
      repeat refine ⟨by first | omega | assumption | (simp only [maxLen]; omega) | (intros; omega) | decide, ?_⟩
      refine hK _ ?_
      clear hK K
      repeat first | refine thenN ?_ | refine thenX ?_ | refine thenR ?_ | refine blockN ?_ | refine blockR ?_ | refine blockX ?_ | refine blockM rfl ?_
      -- region 4
      refine AWp.rend E_ok [0, 2, 3, 4, 5, 9, 23] fun K hK => ?_
      simp [h9, hje, hj1, hj2, hdw, e0, e1, e2, e3, e4, hx, hxx]
      try simp (disch := omega) only [wrap_i64]
      repeat refine ⟨by first | omega | assumption | (simp only [maxLen]; omega) | (intros; omega) | decide, ?_⟩
      refine hK _ ?_
      clear hK K
      repeat first | refine thenN ?_ | refine thenX ?_ | refine thenR ?_ | refine blockN ?_ | refine blockR ?_ | refine blockX ?_ | refine blockM rfl ?_
      have hw : IntKind.i64.wrap ((k : Int) + 1) = (k : Int) + 1 := by rw [wrap_i64] <;> omega
      skip
      refine ⟨_, hlt, hs, ?_, ?_⟩
      · exact ⟨by omega, by omega, by simp; omega⟩
      · simp [Weak, TW, hw, twD] <;> omega
  · try simp at h9
    have t1 : c.tmod 10 = c % 10 := Int.tmod_eq_emod_of_nonneg (by omega)
    have t2 : (10 - c % 10).tmod 10 = (10 - c % 10) % 10 := Int.tmod_eq_emod_of_nonneg (by omega)
    obtain rfl : k = s.reverse.length := by rw [List.length_reverse] at hk ⊢; omega
    simp only [List.drop_length, luhF] at hs
    rw [List.length_reverse] at hi
    refine AWp.exit ?_
    repeat first | refine thenN ?_ | refine thenX ?_ | refine thenR ?_ | refine blockN ?_ | refine blockR ?_ | refine blockX ?_ | refine blockM rfl ?_
    -- region 10
    refine AWp.rseq E_ok [0, 2, 3, 4, 5, 9, 23] fun K hK => ?_
    simp [h9, t1, t2]
    try simp (disch := omega) only [wrap_i64]
    repeat refine ⟨by first | omega | assumption | (simp only [maxLen]; omega) | (intros; omega) | decide, ?_⟩
    refine hK _ ?_
    clear hK K
    refine AWp.ret ?_
    repeat first | refine thenN ?_ | refine thenX ?_ | refine thenR ?_ | refine blockN ?_ | refine blockR ?_ | refine blockX ?_ | refine blockM rfl ?_
    simp [RetOk, RV, RVs, luhN, ← hs]; rw [t2]; omega
end Go.Proofs.YtjljjnipjhbeaaaGreatDoor

set_option maxRecDepth 100000
set_option linter.unusedSimpArgs false
set_option linter.unusedVariables false
namespace Go.Proofs.YtjljjnipjhbeaaaGreatDoor
open Go Ab Pl
theorem ref05_Parse (s : List UInt8) : ACalls E.P 18 [.str s] (.tup [.int .i64 (parB s).1, .int .i64 (parB s).2.1, .int .i64 (parB s).2.2]) := by
  refine ACalls.intro E_ok Tryz.func18 rfl rfl Tryz.ntmps18 Tryz.results18 (Nat.le_of_ble_eq_true rfl) fun hok base S0 w0 => ?_
  -- region 0
  refine AWp.rseq E_ok [0, 2, 3, 4, 5, 6, 24, 32, 34, 46] fun K hK => ?_
  simp
  try simp (disch := omega) only [wrap_i64]
  repeat refine ⟨by first | omega | assumption | (simp only [maxLen]; omega) | (intros; omega) | decide, ?_⟩
  refine hK _ ?_
  clear hK K
  refine AWp.seq ?_
  rcases Decidable.em (s.length = 14) with hL | hL
  · skip
    have h0l : 0 < s.length := by omega
    obtain ⟨b0, hb0⟩ : ∃ b, s[0]? = some b := ⟨s[0], by simp⟩
    have hb1 : s[0]'h0l = b0 := (List.getElem?_eq_some_iff.1 hb0).2
    have hg0 : s.getD 0 0 = b0 := by rw [List.getD_eq_getElem?_getD, hb0]; rfl
    -- region 1
    refine AWp.rseq E_ok [0, 2, 3, 4, 5, 6, 24, 32, 34, 46] fun K hK => ?_
    simp [hL, hb0, hb1]
    try simp (disch := omega) only [wrap_i64]
    repeat refine ⟨by first | omega | assumption | (simp only [maxLen]; omega) | (intros; omega) | decide, ?_⟩
    refine meet.of (ref05_Digits s) ?_
    simp [hL, hb0, hb1]
    try simp (disch := omega) only [wrap_i64]
    repeat refine ⟨by first | omega | assumption | (simp only [maxLen]; omega) | (intros; omega) | decide, ?_⟩
    refine hK _ ?_
    clear hK K
    refine AWp.cond rfl (fun h24 => ?_) (fun h24 => ?_)
    · try simp at h24
      have hb : parB s = (0, 0, 3) := by first | exact par_no hg0 h24 | exact if_pos (.inl hL)
      -- region 2
      refine AWp.rseq E_ok [0, 2, 3, 4, 5, 6, 24, 32, 34, 46] fun K hK => ?_
      simp [hL, hb0, hb1]
      try simp (disch := omega) only [wrap_i64]
      repeat refine ⟨by first | omega | assumption | (simp only [maxLen]; omega) | (intros; omega) | decide, ?_⟩
      refine hK _ ?_
      clear hK K
      refine AWp.ret ?_
      repeat first | refine thenN ?_ | refine thenX ?_ | refine thenR ?_ | refine blockN ?_ | refine blockR ?_ | refine blockX ?_ | refine blockM rfl ?_
      simp [RetOk, RV, RVs, hb]
    · try simp at h24
      have hall : s.all isDig = true := by simpa using h24.1
      have h05 : b0 = 50 ∨ b0 = 51 := by by_cases h : b0 = 50 <;> first | exact .inl h | exact .inr (nat_u8 (y := 51) (h24.2 (fun e => h (nat_u8 (y := 50) e))))
      obtain ⟨hp1, hp2, hp3, hp4⟩ := parB_pre hL hall (hg0 ▸ h05)
      have hall3 : (s.take 13).all isDig = true := List.all_eq_true.2 fun x hx => List.all_eq_true.1 hall x (List.mem_of_mem_take hx)
      have hlr := luhN_rng (s.take 13)
      have h13l : 13 < s.length := by omega
      obtain ⟨c, hc0⟩ : ∃ b, s[13]? = some b := ⟨s[13], by simp⟩
      have hc1 : s[13]'h13l = c := (List.getElem?_eq_some_iff.1 hc0).2
      have hg13 : s.getD 13 0 = c := by rw [List.getD_eq_getElem?_getD, hc0]; rfl
      have hcd := dB_wrap (List.all_eq_true.1 hall c (List.mem_of_getElem? hc0))
      have hbd := dB_wrap (List.all_eq_true.1 hall b0 (List.mem_of_getElem? hb0))
      have hcr := dB_rng (List.all_eq_true.1 hall c (List.mem_of_getElem? hc0))
      have hbr := dB_rng (List.all_eq_true.1 hall b0 (List.mem_of_getElem? hb0))
      rw [hg0, hg13] at hp4
      refine AWp.skip ?_
      repeat first | refine thenN ?_ | refine thenX ?_ | refine thenR ?_ | refine blockN ?_ | refine blockR ?_ | refine blockX ?_ | refine blockM rfl ?_
      refine AWp.seq ?_
      -- region 3
      refine AWp.rseqQ E_ok mixed [0, 2, 3, 4, 5, 6, 24, 32, 34, 46] (by kernel_rfl) fun K hK => ?_
      simp [hL, hb0, hb1, hc0, hc1, hcd, hbd]
      try simp (disch := omega) only [wrap_i64]
      repeat refine ⟨by first | omega | assumption | (simp only [maxLen]; omega) | (intros; omega) | decide, ?_⟩
      refine meet.of (ref05_luhn (s.take 13) hall3 (by simp; omega)) ?_
      simp [hL, hb0, hb1, hc0, hc1, hcd, hbd]
      try simp (disch := omega) only [wrap_i64]
      repeat refine ⟨by first | omega | assumption | (simp only [maxLen]; omega) | (intros; omega) | decide, ?_⟩
      refine hK _ ?_
      clear hK K
      refine AWp.cond rfl (fun h32 => ?_) (fun h32 => ?_)
      · try simp at h32
        have hb : parB s = (0, 0, 5) := by rw [hp4, if_pos h32]
        -- region 4
        refine AWp.rseq E_ok [0, 2, 3, 4, 5, 6, 24, 32, 34, 46] fun K hK => ?_
        simp [hL, hb0, hb1, hc0, hc1, hcd, hbd]
        try simp (disch := omega) only [wrap_i64]
        repeat refine ⟨by first | omega | assumption | (simp only [maxLen]; omega) | (intros; omega) | decide, ?_⟩
        refine hK _ ?_
        clear hK K
        refine AWp.ret ?_
        repeat first | refine thenN ?_ | refine thenX ?_ | refine thenR ?_ | refine blockN ?_ | refine blockR ?_ | refine blockX ?_ | refine blockM rfl ?_
        simp [RetOk, RV, RVs, hb]
      · try simp at h32
        rw [if_neg (by simpa using h32)] at hp4
        refine AWp.skip ?_
        repeat first | refine thenN ?_ | refine thenX ?_ | refine thenR ?_ | refine blockN ?_ | refine blockR ?_ | refine blockX ?_ | refine blockM rfl ?_
        -- region 5
        refine AWp.rseq E_ok [0, 2, 3, 4, 5, 6, 24, 32, 34, 46] fun K hK => ?_
        simp [hL, hb0, hb1, hc0, hc1, hcd, hbd]
        try simp (disch := omega) only [wrap_i64]
        repeat refine ⟨by first | omega | assumption | (simp only [maxLen]; omega) | (intros; omega) | decide, ?_⟩
        refine hK _ ?_
        clear hK K
        refine AWp.seq ?_
        -- region 6
        refine AWp.rseq E_ok [0, 2, 3, 4, 5, 6, 24, 32, 34, 46] fun K hK => ?_
        simp [hL, hb0, hb1, hc0, hc1, hcd, hbd]
        try simp (disch := omega) only [wrap_i64]
        repeat refine ⟨by first | omega | assumption | (simp only [maxLen]; omega) | (intros; omega) | decide, ?_⟩
        refine hK _ ?_
        clear hK K
        refine AWp.block ?_
        refine AWp.range (l := ((s.take 13).drop 1)) (F := valF) (tot := valF 0 ((s.take 13).drop 1)) (fun k y => match y with | c => 0 ≤ c ∧ c < 10 ^ k) (fun k y => match y with | c => [(0, T.val (D.str s)), (5, T.val (.int .i64 c)), (6, T.val (.int .i64 (1 + (k : Int))))]) (0) ?_ rfl ?_ ?_
        · simp [Weak, TW]
        · simp
        rintro k c hk hs hi
        try simp only at hi
        refine AWp.seq ?_
        -- region 7
        refine AWp.rseq E_ok [0, 2, 3, 4, 5, 6, 24, 32, 34, 46] fun K hK => ?_
        simp [hL, hb0, hb1, hc0, hc1, hcd, hbd]
        try simp (disch := omega) only [wrap_i64]
        repeat refine ⟨by first | omega | assumption | (simp only [maxLen]; omega) | (intros; omega) | decide, ?_⟩
        refine hK _ ?_
        clear hK K
        refine AWp.cond rfl (fun h34 => ?_) (fun h34 => ?_)
        · try simp at h34
          have hlt : k < ((s.take 13).drop 1).length := by simp; omega
          obtain ⟨x, hx, hxx, hd⟩ := at_indexG (l := ((s.take 13).drop 1)) hlt
          rw [hd] at hs
          have hki : 1 + k < s.length := by have := hlt; simp at this; omega
          have hkx : s[1 + k]? = some x := by have := hx; rw [List.getElem?_drop, List.getElem?_take, if_pos (by have := hlt; simp at this; omega)] at this; exact this
          have hkx2 : s[1 + k]'hki = x := (List.getElem?_eq_some_iff.1 hkx).2
          have hxd := dB_wrap (List.all_eq_true.1 hall x (List.mem_of_getElem? hkx))
          have hxr := dB_rng (List.all_eq_true.1 hall x (List.mem_of_getElem? hkx))
          have hkt : (1 + (k : Int)).toNat = 1 + k := by omega
          have hk0 : (0 : Int) ≤ 1 + (k : Int) := by omega
          have hk1 : 1 + (k : Int) < (s.length : Int) := by omega
          have hp10 : (10 : Int) ^ (k + 1) = 10 * 10 ^ k := by rw [Int.pow_succ, Int.mul_comm]
          have hk12 : k ≤ 11 := by have := hlt; simp at this; omega
          have hpk := pow_le k hk12
          have hcc : c * 10 + dB x = 10 * c + dB x := by omega
          refine AWp.skip ?_
          repeat first | refine thenN ?_ | refine thenX ?_ | refine thenR ?_ | refine blockN ?_ | refine blockR ?_ | refine blockX ?_ | refine blockM rfl ?_
          refine AWp.seq ?_
          refine AWp.block ?_
          -- region 9
          refine AWp.rend E_ok [0, 2, 3, 4, 5, 6, 24, 32, 34, 46] fun K hK => ?_
          simp [hL, hb0, hb1, hc0, hc1, hcd, hbd, h34, hkx, hkx2, hxd, hkt, hk0, hk1, hx, hxx]
          try simp (disch := omega) only [wrap_i64]
          repeat refine ⟨by first | omega | assumption | (simp only [maxLen]; omega) | (intros; omega) | decide, ?_⟩
          refine hK _ ?_
          clear hK K
          repeat first | refine thenN ?_ | refine thenX ?_ | refine thenR ?_ | refine blockN ?_ | refine blockR ?_ | refine blockX ?_ | refine blockM rfl ?_
          -- region 8
          refine AWp.rend E_ok [0, 2, 3, 4, 5, 6, 24, 32, 34, 46] fun K hK => ?_
          simp [hL, hb0, hb1, hc0, hc1, hcd, hbd, h34, hkx, hkx2, hxd, hkt, hk0, hk1, hx, hxx]
          try simp (disch := omega) only [wrap_i64]
          repeat refine ⟨by first | omega | assumption | (simp only [maxLen]; omega) | (intros; omega) | decide, ?_⟩
          refine hK _ ?_
          clear hK K
          repeat first | refine thenN ?_ | refine thenX ?_ | refine thenR ?_ | refine blockN ?_ | refine blockR ?_ | refine blockX ?_ | refine blockM rfl ?_
          have hw : IntKind.i64.wrap ((k : Int) + 1) = (k : Int) + 1 := by rw [wrap_i64] <;> omega
          rw [valF] at hs
          refine ⟨_, hlt, hs, ?_, ?_⟩
          · have hx0 : ((x.toNat : Int) - 48) = dB x := rfl; rw [hx0, hp10]; omega
          · simp [Weak, TW, hw] <;> (first | omega | (constructor <;> first | (show _ = 10 * c + dB x; omega) | omega))
        · try simp at h34
          obtain rfl : k = ((s.take 13).drop 1).length := by simp at hk ⊢; omega
          simp only [List.drop_length, valF] at hs
          refine AWp.exit ?_
          repeat first | refine thenN ?_ | refine thenX ?_ | refine thenR ?_ | refine blockN ?_ | refine blockR ?_ | refine blockX ?_ | refine blockM rfl ?_
          refine AWp.seq ?_
          -- region 10
          refine AWp.rseq E_ok [0, 2, 3, 4, 5, 6, 24, 32, 34, 46] fun K hK => ?_
          simp [hL, hb0, hb1, hc0, hc1, hcd, hbd, h34]
          try simp (disch := omega) only [wrap_i64]
          repeat refine ⟨by first | omega | assumption | (simp only [maxLen]; omega) | (intros; omega) | decide, ?_⟩
          refine hK _ ?_
          clear hK K
          refine AWp.cond rfl (fun h46 => ?_) (fun h46 => ?_)
          · try simp at h46
            have hb : parB s = (0, 0, 2) := by rw [hp4, ← hs, if_pos h46]
            -- region 11
            refine AWp.rseq E_ok [0, 2, 3, 4, 5, 6, 24, 32, 34, 46] fun K hK => ?_
            simp [hL, hb0, hb1, hc0, hc1, hcd, hbd, h34]
            try simp (disch := omega) only [wrap_i64]
            repeat refine ⟨by first | omega | assumption | (simp only [maxLen]; omega) | (intros; omega) | decide, ?_⟩
            refine hK _ ?_
            clear hK K
            refine AWp.ret ?_
            repeat first | refine thenN ?_ | refine thenX ?_ | refine thenR ?_ | refine blockN ?_ | refine blockR ?_ | refine blockX ?_ | refine blockM rfl ?_
            simp [RetOk, RV, RVs, hb]
          · try simp at h46
            have hb : parB s = (dB b0, c, 0) := by rw [hp4, ← hs, if_neg (by omega)]
            refine AWp.skip ?_
            repeat first | refine thenN ?_ | refine thenX ?_ | refine thenR ?_ | refine blockN ?_ | refine blockR ?_ | refine blockX ?_ | refine blockM rfl ?_
            -- region 12
            refine AWp.rseq E_ok [0, 2, 3, 4, 5, 6, 24, 32, 34, 46] fun K hK => ?_
            simp [hL, hb0, hb1, hc0, hc1, hcd, hbd, h34]
            try simp (disch := omega) only [wrap_i64]
            repeat refine ⟨by first | omega | assumption | (simp only [maxLen]; omega) | (intros; omega) | decide, ?_⟩
            refine hK _ ?_
            clear hK K
            refine AWp.ret ?_
            repeat first | refine thenN ?_ | refine thenX ?_ | refine thenR ?_ | refine blockN ?_ | refine blockR ?_ | refine blockX ?_ | refine blockM rfl ?_
            simp [RetOk, RV, RVs, hb]
  · skip
    have hLn : ((s.length : Int) != 14) = true := by simp; omega
    -- region 1
    refine AWp.rseq E_ok [0, 2, 3, 4, 5, 6, 24, 32, 34, 46] fun K hK => ?_
    simp [hLn]
    try simp (disch := omega) only [wrap_i64]
    repeat refine ⟨by first | omega | assumption | (simp only [maxLen]; omega) | (intros; omega) | decide, ?_⟩
    refine meet.of (ref05_Digits s) ?_
    simp [hLn]
    try simp (disch := omega) only [wrap_i64]
    repeat refine ⟨by first | omega | assumption | (simp only [maxLen]; omega) | (intros; omega) | decide, ?_⟩
    refine hK _ ?_
    clear hK K
    refine AWp.cond rfl (fun h24 => ?_) (fun h24 => ?_)
    · try simp at h24
      have hb : parB s = (0, 0, 3) := by first | exact par_no hg0 h24 | exact if_pos (.inl hL)
      -- region 2
      refine AWp.rseq E_ok [0, 2, 3, 4, 5, 6, 24, 32, 34, 46] fun K hK => ?_
      simp [hLn]
      try simp (disch := omega) only [wrap_i64]
      repeat refine ⟨by first | omega | assumption | (simp only [maxLen]; omega) | (intros; omega) | decide, ?_⟩
      refine hK _ ?_
      clear hK K
      refine AWp.ret ?_
      repeat first | refine thenN ?_ | refine thenX ?_ | refine thenR ?_ | refine blockN ?_ | refine blockR ?_ | refine blockX ?_ | refine blockM rfl ?_
      simp [RetOk, RV, RVs, hb]
    · exact absurd h24 (by simp)
end Go.Proofs.YtjljjnipjhbeaaaGreatDoor

set_option maxRecDepth 100000
set_option linter.unusedSimpArgs false
set_option linter.unusedVariables false
namespace Go.Proofs.YtjljjnipjhbeaaaGreatDoor
open Go Ab Pl
theorem law05_BarcodeParses (s : List UInt8) : ACalls E.P 5 [.str s] (.d (.bool true)) := by
  refine ACalls.intro E_ok Tryz.func5 rfl rfl Tryz.ntmps5 Tryz.results5 (Nat.le_of_ble_eq_true rfl) fun hok base S0 w0 => ?_
  -- region 0
  refine AWp.rseq E_ok [0, 2, 3, 4, 5, 6, 7, 8, 11] fun K hK => ?_
  simp
  repeat refine ⟨by first | omega | assumption | (simp only [maxLen]; omega) | (intros; omega) | decide, ?_⟩
  refine hK _ ?_
  clear hK K
  refine AWp.seq ?_
  -- region 1
  refine AWp.rseq E_ok [0, 2, 3, 4, 5, 6, 7, 8, 11] fun K hK => ?_
  simp
  repeat refine ⟨by first | omega | assumption | (simp only [maxLen]; omega) | (intros; omega) | decide, ?_⟩
  refine hK _ ?_
  clear hK K
  refine AWp.cond rfl (fun h11 => ?_) (fun h11 => ?_)
  · try simp at h11
    -- region 2
    refine AWp.rseq E_ok [0, 2, 3, 4, 5, 6, 7, 8, 11] fun K hK => ?_
    simp [h11]
    repeat refine ⟨by first | omega | assumption | (simp only [maxLen]; omega) | (intros; omega) | decide, ?_⟩
    refine meet.of (law05_alive) ?_
    simp [h11]
    repeat refine ⟨by first | omega | assumption | (simp only [maxLen]; omega) | (intros; omega) | decide, ?_⟩
    refine hK _ ?_
    clear hK K
    refine AWp.ret ?_
    repeat first | refine thenN ?_ | refine thenX ?_ | refine thenR ?_ | refine blockN ?_ | refine blockR ?_ | refine blockX ?_ | refine blockM rfl ?_
    simp [RetOk, RV]
  · try simp at h11
    refine AWp.skip ?_
    repeat first | refine thenN ?_ | refine thenX ?_ | refine thenR ?_ | refine blockN ?_ | refine blockR ?_ | refine blockX ?_ | refine blockM rfl ?_
    -- region 3
    refine AWp.rseq E_ok [0, 2, 3, 4, 5, 6, 7, 8, 11] fun K hK => ?_
    simp [h11]
    repeat refine ⟨by first | omega | assumption | (simp only [maxLen]; omega) | (intros; omega) | decide, ?_⟩
    refine meet.of (barcode_Parse s) ?_
    simp [h11]
    repeat refine ⟨by first | omega | assumption | (simp only [maxLen]; omega) | (intros; omega) | decide, ?_⟩
    refine hK _ ?_
    clear hK K
    -- region 4
    refine AWp.rseq E_ok [0, 2, 3, 4, 5, 6, 7, 8, 11] fun K hK => ?_
    simp [h11]
    repeat refine ⟨by first | omega | assumption | (simp only [maxLen]; omega) | (intros; omega) | decide, ?_⟩
    refine meet.of (ref05_Parse s) ?_
    simp [h11]
    repeat refine ⟨by first | omega | assumption | (simp only [maxLen]; omega) | (intros; omega) | decide, ?_⟩
    refine hK _ ?_
    clear hK K
    -- region 5
    refine AWp.rseq E_ok [0, 2, 3, 4, 5, 6, 7, 8, 11] fun K hK => ?_
    simp [h11]
    repeat refine ⟨by first | omega | assumption | (simp only [maxLen]; omega) | (intros; omega) | decide, ?_⟩
    refine meet.of (law05_alive) ?_
    simp [h11]
    repeat refine ⟨by first | omega | assumption | (simp only [maxLen]; omega) | (intros; omega) | decide, ?_⟩
    refine hK _ ?_
    clear hK K
    refine AWp.ret ?_
    repeat first | refine thenN ?_ | refine thenX ?_ | refine thenR ?_ | refine blockN ?_ | refine blockR ?_ | refine blockX ?_ | refine blockM rfl ?_
    simp [RetOk, RV]
end Go.Proofs.YtjljjnipjhbeaaaGreatDoor
