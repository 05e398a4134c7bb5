/-
  What the functions compute that the statement reaches: contracts, and the plain laws between them. Conditions stand at each theorem.
-/
import Derived.Test.YtjljjnipjhbeaaaGreatDoorWalkThree
set_option linter.unusedVariables false
set_option linter.unusedSimpArgs false
set_option maxRecDepth 100000
set_option linter.unusedSimpArgs false
set_option linter.unusedVariables false
namespace Go.Proofs.YtjljjnipjhbeaaaGreatDoor
open Go Ab Pl
theorem ref05_digit (n : Int) (h : 0 ≤ n ∧ n ≤ 9) : ACalls E.P 28 [.int .i64 n] (.d (.str [digC n])) := by
  refine ACalls.intro E_ok Tryz.func28 rfl rfl Tryz.ntmps28 Tryz.results28 (Nat.le_of_ble_eq_true rfl) fun hok base S0 w0 => ?_
  -- region 0
  refine AWp.rseq E_ok [0, 2] fun K hK => ?_
  simp
  repeat refine ⟨by first | omega | assumption | (simp only [maxLen]; omega) | (intros; omega) | decide, ?_⟩
  refine hK _ ?_
  clear hK K
  -- region 1
  refine AWp.rseq E_ok [0, 2] fun K hK => ?_
  simp
  repeat refine ⟨by first | omega | assumption | (simp only [maxLen]; omega) | (intros; omega) | decide, ?_⟩
  refine hK _ ?_
  clear hK K
  refine AWp.ret ?_
  repeat first | refine thenN ?_ | refine thenX ?_ | refine thenR ?_ | refine blockN ?_ | refine blockR ?_ | refine blockX ?_ | refine blockM rfl ?_
  simp [RetOk, RV]; rw [dig_eq h.1 (by omega)]; unfold digC; congr 2; omega
end Go.Proofs.YtjljjnipjhbeaaaGreatDoor

set_option maxRecDepth 100000
set_option linter.unusedSimpArgs false
set_option linter.unusedVariables false
namespace Go.Proofs.YtjljjnipjhbeaaaGreatDoor
open Go Ab Pl
theorem ref05_luhn (s : List UInt8) (hall : s.all isDig = true) (hlr : s.length ≤ 1000) : ACalls E.P 25 [.str s] (.d (.int .i64 (luhN s))) := by
  refine ACalls.intro E_ok Tryz.func25 rfl rfl Tryz.ntmps25 Tryz.results25 (Nat.le_of_ble_eq_true rfl) fun hok base S0 w0 => ?_
  -- region 0
  refine AWp.rseq E_ok [0, 2, 3, 4, 5, 9, 23] fun K hK => ?_
  simp
  try simp (disch := omega) only [wrap_i64]
  repeat refine ⟨by first | omega | assumption | (simp only [maxLen]; omega) | (intros; omega) | decide, ?_⟩
  refine hK _ ?_
  clear hK K
  -- region 1
  refine AWp.rseq E_ok [0, 2, 3, 4, 5, 9, 23] fun K hK => ?_
  simp
  try simp (disch := omega) only [wrap_i64]
  repeat refine ⟨by first | omega | assumption | (simp only [maxLen]; omega) | (intros; omega) | decide, ?_⟩
  refine hK _ ?_
  clear hK K
  refine AWp.seq ?_
  -- region 2
  refine AWp.rseq E_ok [0, 2, 3, 4, 5, 9, 23] fun K hK => ?_
  simp
  try simp (disch := omega) only [wrap_i64]
  repeat refine ⟨by first | omega | assumption | (simp only [maxLen]; omega) | (intros; omega) | decide, ?_⟩
  refine hK _ ?_
  clear hK K
  refine AWp.block ?_
  refine AWp.range (l := s.reverse) (F := luhF) (tot := luhF (true, 0) s.reverse) (fun k y => match y with | (t, c) => 0 ≤ c ∧ c ≤ 9 * (k : Int) ∧ t = decide ((k : Int) % 2 = 0)) (fun k y => match y with | (t, c) => [(0, T.val (D.str s)), (3, T.val (.int .i64 c)), (4, T.val (.int .i64 (k : Int)))]) (true, 0) ?_ rfl ?_ ?_
  · simp [Weak, TW]
  · simp
  rintro k ⟨t, c⟩ hk hs hi
  try simp only at hi
  refine AWp.seq ?_
  -- region 3
  refine AWp.rseq E_ok [0, 2, 3, 4, 5, 9, 23] fun K hK => ?_
  simp
  try simp (disch := omega) only [wrap_i64]
  repeat refine ⟨by first | omega | assumption | (simp only [maxLen]; omega) | (intros; omega) | decide, ?_⟩
  refine hK _ ?_
  clear hK K
  refine AWp.cond rfl (fun h9 => ?_) (fun h9 => ?_)
  · try simp at h9
    have hlt : k < s.reverse.length := by rw [List.length_reverse]; omega
    obtain ⟨x, hx, hxx, hd⟩ := at_indexG (l := s.reverse) hlt
    rw [hd] at hs
    have hjk : s.length - 1 - k < s.length := by omega
    have hje : ((s.length : Int) - 1 - (k : Int)).toNat = s.length - 1 - k := by omega
    have hj1 : s[s.length - 1 - k]? = some x := by have := hx; rw [List.getElem?_reverse (by omega)] at this; exact this
    have hj2 : s[s.length - 1 - k]'hjk = x := (List.getElem?_eq_some_iff.1 hj1).2
    have hdx : isDig x = true := List.all_eq_true.1 hall x (List.mem_of_getElem? hj1)
    have hdr := dB_rng hdx
    have hdw := dB_wrap hdx
    have htr := twD_rng hdr
    have e0 : (dB x * 2).tdiv 10 = 2 * dB x / 10 := by rw [Int.tdiv_eq_ediv_of_nonneg (by omega)]; omega
    have e1 : (dB x * 2).tmod 10 = 2 * dB x % 10 := by rw [Int.tmod_eq_emod_of_nonneg (by omega)]; omega
    have e2 : (0 : Int) ≤ (s.length : Int) - 1 - (k : Int) := by omega
    have e3 : (s.length : Int) - 1 - (k : Int) < (s.length : Int) := by omega
    have e4 : ((k : Int)).tmod 2 = (k : Int) % 2 := Int.tmod_eq_emod_of_nonneg (by omega)
    refine AWp.skip ?_
    repeat first | refine thenN ?_ | refine thenX ?_ | refine thenR ?_ | refine blockN ?_ | refine blockR ?_ | refine blockX ?_ | refine blockM rfl ?_
    refine AWp.seq ?_
    refine AWp.block ?_
    -- region 5
    refine AWp.rseq E_ok [0, 2, 3, 4, 5, 9, 23] fun K hK => ?_
    simp [h9, hje, hj1, hj2, hdw, e0, e1, e2, e3, e4, hx, hxx]
    try simp (disch := omega) only [wrap_i64]
    repeat refine ⟨by first | omega | assumption | (simp only [maxLen]; omega) | (intros; omega) | decide, ?_⟩
    refine hK _ ?_
    clear hK K
    refine AWp.seq ?_
    -- region 6
    refine AWp.rseq E_ok [0, 2, 3, 4, 5, 9, 23] fun K hK => ?_
    simp [h9, hje, hj1, hj2, hdw, e0, e1, e2, e3, e4, hx, hxx]
    try simp (disch := omega) only [wrap_i64]
    repeat refine ⟨by first | omega | assumption | (simp only [maxLen]; omega) | (intros; omega) | decide, ?_⟩
    refine hK _ ?_
    clear hK K
    refine AWp.cond rfl (fun h23 => ?_) (fun h23 => ?_)
    · try simp at h23
      obtain rfl : t = true := by have := hi.2.2; rw [this]; simp; omega
      rw [luhF, if_pos rfl] at hs
      -- region 7
      refine AWp.rseq E_ok [0, 2, 3, 4, 5, 9, 23] fun K hK => ?_
      simp [h9, hje, hj1, hj2, hdw, e0, e1, e2, e3, e4, hx, hxx]
      try simp (disch := omega) only [wrap_i64]
      repeat refine ⟨by first | omega | assumption | (simp only [maxLen]; omega) | (intros; omega) | decide, ?_⟩
      refine hK _ ?_
      clear hK K
      -- region 8
      refine AWp.rend E_ok [0, 2, 3, 4, 5, 9, 23] fun K hK => ?_
      simp [h9, hje, hj1, hj2, hdw, e0, e1, e2, e3, e4, hx, hxx]
      try simp (disch := omega) only [wrap_i64]
      repeat refine ⟨by first | omega | assumption | (simp only [maxLen]; omega) | (intros; omega) | decide, ?_⟩
      refine hK _ ?_
      clear hK K
      repeat first | refine thenN ?_ | refine thenX ?_ | refine thenR ?_ | refine blockN ?_ | refine blockR ?_ | refine blockX ?_ | refine blockM rfl ?_
      -- region 9
      refine AWp.rend E_ok [0, 2, 3, 4, 5, 9, 23] fun K hK => ?_
      simp [h9, hje, hj1, hj2, hdw, e0, e1, e2, e3, e4, hx, hxx]
      try simp (disch := omega) only [wrap_i64]
      repeat refine ⟨by first | omega | assumption | (simp only [maxLen]; omega) | (intros; omega) | decide, ?_⟩
      refine hK _ ?_
      clear hK K
      repeat first | refine thenN ?_ | refine thenX ?_ | refine thenR ?_ | refine blockN ?_ | refine blockR ?_ | refine blockX ?_ | refine blockM rfl ?_
      -- region 4
      refine AWp.rend E_ok [0, 2, 3, 4, 5, 9, 23] fun K hK => ?_
      simp [h9, hje, hj1, hj2, hdw, e0, e1, e2, e3, e4, hx, hxx]
      try simp (disch := omega) only [wrap_i64]
      repeat refine ⟨by first | omega | assumption | (simp only [maxLen]; omega) | (intros; omega) | decide, ?_⟩
      refine hK _ ?_
      clear hK K
      repeat first | refine thenN ?_ | refine thenX ?_ | refine thenR ?_ | refine blockN ?_ | refine blockR ?_ | refine blockX ?_ | refine blockM rfl ?_
      have hw : IntKind.i64.wrap ((k : Int) + 1) = (k : Int) + 1 := by rw [wrap_i64] <;> omega
      skip
      refine ⟨_, hlt, hs, ?_, ?_⟩
      · exact ⟨by omega, by omega, by simp; omega⟩
      · simp [Weak, TW, hw, twD] <;> omega
    · try simp at h23
      obtain rfl : t = false := by have := hi.2.2; rw [this]; simp; omega
      rw [luhF, if_neg (by decide)] at hs
      refine AWp.skip ?_
      repeat first | refine thenN ?_ | refine thenX ?_ | refine thenR ?_ | refine blockN ?_ | refine blockR ?_ | refine blockX ?_ | refine blockM rfl ?_
      -- region 9
      refine AWp.rend E_ok [0, 2, 3, 4, 5, 9, 23] fun K hK => ?_
      simp [h9, hje, hj1, hj2, hdw, e0, e1, e2, e3, e4, hx, hxx]
      try simp (disch := omega) only [wrap_i64]
      repeat refine ⟨by first | omega | assumption | (simp only [maxLen]; omega) | (intros; omega) | decide, ?_⟩
      refine hK _ ?_
      clear hK K
      repeat first | refine thenN ?_ | refine thenX ?_ | refine thenR ?_ | refine blockN ?_ | refine blockR ?_ | refine blockX ?_ | refine blockM rfl ?_
      -- region 4
      refine AWp.rend E_ok [0, 2, 3, 4, 5, 9, 23] fun K hK => ?_
      simp [h9, hje, hj1, hj2, hdw, e0, e1, e2, e3, e4, hx, hxx]
      try simp (disch := omega) only [wrap_i64]
      repeat refine ⟨by first | omega | assumption | (simp only [maxLen]; omega) | (intros; omega) | decide, ?_⟩
      refine hK _ ?_
      clear hK K
      repeat first | refine thenN ?_ | refine thenX ?_ | refine thenR ?_ | refine blockN ?_ | refine blockR ?_ | refine blockX ?_ | refine blockM rfl ?_
      have hw : IntKind.i64.wrap ((k : Int) + 1) = (k : Int) + 1 := by rw [wrap_i64] <;> omega
      skip
      refine ⟨_, hlt, hs, ?_, ?_⟩
      · exact ⟨by omega, by omega, by simp; omega⟩
      · simp [Weak, TW, hw, twD] <;> omega
  · try simp at h9
    have t1 : c.tmod 10 = c % 10 := Int.tmod_eq_emod_of_nonneg (by omega)
    have t2 : (10 - c % 10).tmod 10 = (10 - c % 10) % 10 := Int.tmod_eq_emod_of_nonneg (by omega)
    obtain rfl : k = s.reverse.length := by rw [List.length_reverse] at hk ⊢; omega
    simp only [List.drop_length, luhF] at hs
    rw [List.length_reverse] at hi
    refine AWp.exit ?_
    repeat first | refine thenN ?_ | refine thenX ?_ | refine thenR ?_ | refine blockN ?_ | refine blockR ?_ | refine blockX ?_ | refine blockM rfl ?_
    -- region 10
    refine AWp.rseq E_ok [0, 2, 3, 4, 5, 9, 23] fun K hK => ?_
    simp [h9, t1, t2]
    try simp (disch := omega) only [wrap_i64]
    repeat refine ⟨by first | omega | assumption | (simp only [maxLen]; omega) | (intros; omega) | decide, ?_⟩
    refine hK _ ?_
    clear hK K
    refine AWp.ret ?_
    repeat first | refine thenN ?_ | refine thenX ?_ | refine thenR ?_ | refine blockN ?_ | refine blockR ?_ | refine blockX ?_ | refine blockM rfl ?_
    simp [RetOk, RV, RVs, luhN, ← hs]; rw [t2]; omega
end Go.Proofs.YtjljjnipjhbeaaaGreatDoor

set_option maxRecDepth 100000
set_option linter.unusedSimpArgs false
set_option linter.unusedVariables false
namespace Go.Proofs.YtjljjnipjhbeaaaGreatDoor
open Go Ab Pl
theorem ref05_Make (k n : Int) : ACalls E.P 16 [.int .i64 k, .int .i64 n] (.tup [.str (makR k n).1, .int .i64 (makR k n).2]) := by
  refine ACalls.intro E_ok Tryz.func16 rfl rfl Tryz.ntmps16 Tryz.results16 (Nat.le_of_ble_eq_true rfl) fun hok base S0 w0 => ?_
  -- region 0
  refine AWp.rseq E_ok [0, 1, 4, 5, 6, 7, 13, 19, 21] fun K hK => ?_
  simp
  try simp (disch := omega) only [wrap_i64]
  repeat refine ⟨by first | omega | assumption | (simp only [maxLen]; omega) | (intros; omega) | decide, ?_⟩
  refine hK _ ?_
  clear hK K
  refine AWp.seq ?_
  -- region 1
  refine AWp.rseq E_ok [0, 1, 4, 5, 6, 7, 13, 19, 21] fun K hK => ?_
  simp
  try simp (disch := omega) only [wrap_i64]
  repeat refine ⟨by first | omega | assumption | (simp only [maxLen]; omega) | (intros; omega) | decide, ?_⟩
  refine hK _ ?_
  clear hK K
  refine AWp.cond rfl (fun h13 => ?_) (fun h13 => ?_)
  · try simp at h13
    have hb : makR k n = ([], 1) := if_pos h13
    -- region 2
    refine AWp.rseq E_ok [0, 1, 4, 5, 6, 7, 13, 19, 21] fun K hK => ?_
    simp
    try simp (disch := omega) only [wrap_i64]
    repeat refine ⟨by first | omega | assumption | (simp only [maxLen]; omega) | (intros; omega) | decide, ?_⟩
    refine hK _ ?_
    clear hK K
    refine AWp.ret ?_
    repeat first | refine thenN ?_ | refine thenX ?_ | refine thenR ?_ | refine blockN ?_ | refine blockR ?_ | refine blockX ?_ | refine blockM rfl ?_
    simp [RetOk, RV, RVs, hb]
  · try simp at h13
    refine AWp.skip ?_
    repeat first | refine thenN ?_ | refine thenX ?_ | refine thenR ?_ | refine blockN ?_ | refine blockR ?_ | refine blockX ?_ | refine blockM rfl ?_
    refine AWp.seq ?_
    -- region 3
    refine AWp.rseq E_ok [0, 1, 4, 5, 6, 7, 13, 19, 21] fun K hK => ?_
    simp
    try simp (disch := omega) only [wrap_i64]
    repeat refine ⟨by first | omega | assumption | (simp only [maxLen]; omega) | (intros; omega) | decide, ?_⟩
    refine hK _ ?_
    clear hK K
    refine AWp.cond rfl (fun h19 => ?_) (fun h19 => ?_)
    · try simp at h19
      have hb : makR k n = ([], 2) := by unfold makR; rw [if_neg (by omega), if_pos h19]
      -- region 4
      refine AWp.rseq E_ok [0, 1, 4, 5, 6, 7, 13, 19, 21] fun K hK => ?_
      simp
      try simp (disch := omega) only [wrap_i64]
      repeat refine ⟨by first | omega | assumption | (simp only [maxLen]; omega) | (intros; omega) | decide, ?_⟩
      refine hK _ ?_
      clear hK K
      refine AWp.ret ?_
      repeat first | refine thenN ?_ | refine thenX ?_ | refine thenR ?_ | refine blockN ?_ | refine blockR ?_ | refine blockX ?_ | refine blockM rfl ?_
      simp [RetOk, RV, RVs, hb]
    · try simp at h19
      have hb : makR k n = (digC k :: digD n 12 ++ [digC (luhN (digC k :: digD n 12))], 0) := by unfold makR; rw [if_neg (by omega), if_neg (by omega)]
      have hlr := luhN_rng (digC k :: digD n 12)
      have hall : (digC k :: digD n 12).all isDig = true := by rw [List.all_cons, digC_dig, digD_dig]; rfl
      refine AWp.skip ?_
      repeat first | refine thenN ?_ | refine thenX ?_ | refine thenR ?_ | refine blockN ?_ | refine blockR ?_ | refine blockX ?_ | refine blockM rfl ?_
      -- region 5
      refine AWp.rseq E_ok [0, 1, 4, 5, 6, 7, 13, 19, 21] fun K hK => ?_
      simp
      try simp (disch := omega) only [wrap_i64]
      repeat refine ⟨by first | omega | assumption | (simp only [maxLen]; omega) | (intros; omega) | decide, ?_⟩
      refine hK _ ?_
      clear hK K
      refine AWp.seq ?_
      -- region 6
      refine AWp.rseq E_ok [0, 1, 4, 5, 6, 7, 13, 19, 21] fun K hK => ?_
      simp
      try simp (disch := omega) only [wrap_i64]
      repeat refine ⟨by first | omega | assumption | (simp only [maxLen]; omega) | (intros; omega) | decide, ?_⟩
      refine hK _ ?_
      clear hK K
      refine AWp.block ?_
      refine AWp.loop (ι := { y : Int × Nat × List UInt8 // (0 ≤ y.1 ∧ y.1 ≤ n) ∧ y.2.1 ≤ 12 ∧ y.2.2.length = y.2.1 ∧ digD y.1 (12 - y.2.1) ++ y.2.2 = digD n 12 }) (fun x => match x with | ⟨⟨x, i, b⟩, ⟨hx, hxn⟩, hi, hbl, hbd⟩ => [(0, T.val (D.int IntKind.i64 k)), (1, T.val (.int .i64 x)), (6, T.val (.str b)), (7, T.val (.int .i64 i))]) (fun x => match x with | ⟨⟨x, i, b⟩, ⟨hx, hxn⟩, hi, hbl, hbd⟩ => 12 - i) ⟨(n, 0, []), ⟨by simp only; omega, by simp only; omega⟩, by simp, rfl, by simp⟩ ?_ ?_
      · simp [Weak, TW]
      rintro ⟨⟨x, i, b⟩, ⟨hx, hxn⟩, hi, hbl, hbd⟩
      simp only
      try simp only at hx
      try simp only at hxn
      try simp only at hi
      try simp only at hbl
      try simp only at hbd
      refine AWp.seq ?_
      -- region 7
      refine AWp.rseq E_ok [0, 1, 4, 5, 6, 7, 13, 19, 21] fun K hK => ?_
      simp
      try simp (disch := omega) only [wrap_i64]
      repeat refine ⟨by first | omega | assumption | (simp only [maxLen]; omega) | (intros; omega) | decide, ?_⟩
      refine hK _ ?_
      clear hK K
      refine AWp.cond rfl (fun h21 => ?_) (fun h21 => ?_)
      · try simp at h21
        have e1 : x.tmod 10 = x % 10 := Int.tmod_eq_emod_of_nonneg hx
        have e2 : x.tdiv 10 = x / 10 := Int.tdiv_eq_ediv_of_nonneg hx
        have e3 : digC (x % 10) = digC x := digC_mod x
        refine AWp.skip ?_
        repeat first | refine thenN ?_ | refine thenX ?_ | refine thenR ?_ | refine blockN ?_ | refine blockR ?_ | refine blockX ?_ | refine blockM rfl ?_
        refine AWp.seq ?_
        refine AWp.block ?_
        -- region 9
        refine AWp.rseq E_ok [0, 1, 4, 5, 6, 7, 13, 19, 21] fun K hK => ?_
        simp [h21, e1, e2, e3]
        try simp (disch := omega) only [wrap_i64]
        repeat refine ⟨by first | omega | assumption | (simp only [maxLen]; omega) | (intros; omega) | decide, ?_⟩
        refine meet.of (ref05_digit (x % 10) (by omega)) ?_
        simp [h21, e1, e2, e3]
        try simp (disch := omega) only [wrap_i64]
        repeat refine ⟨by first | omega | assumption | (simp only [maxLen]; omega) | (intros; omega) | decide, ?_⟩
        refine hK _ ?_
        clear hK K
        -- region 10
        refine AWp.rend E_ok [0, 1, 4, 5, 6, 7, 13, 19, 21] fun K hK => ?_
        simp [h21, e1, e2, e3]
        try simp (disch := omega) only [wrap_i64]
        repeat refine ⟨by first | omega | assumption | (simp only [maxLen]; omega) | (intros; omega) | decide, ?_⟩
        refine hK _ ?_
        clear hK K
        repeat first | refine thenN ?_ | refine thenX ?_ | refine thenR ?_ | refine blockN ?_ | refine blockR ?_ | refine blockX ?_ | refine blockM rfl ?_
        -- region 8
        refine AWp.rend E_ok [0, 1, 4, 5, 6, 7, 13, 19, 21] fun K hK => ?_
        simp [h21, e1, e2, e3]
        try simp (disch := omega) only [wrap_i64]
        repeat refine ⟨by first | omega | assumption | (simp only [maxLen]; omega) | (intros; omega) | decide, ?_⟩
        refine hK _ ?_
        clear hK K
        repeat first | refine thenN ?_ | refine thenX ?_ | refine thenR ?_ | refine blockN ?_ | refine blockR ?_ | refine blockX ?_ | refine blockM rfl ?_
        have hb2 : digD (x / 10) (12 - (i + 1)) ++ (digC x :: b) = digD n 12 := by rw [show 12 - i = (12 - (i + 1)) + 1 by omega, digD] at hbd; simpa using hbd
        refine ⟨⟨(x / 10, i + 1, digC x :: b), ⟨by simp only; omega, by simp only; omega⟩, by simp only; omega, by simp [hbl], hb2⟩, ?_, by dsimp only; omega⟩
        try dsimp only
        simp [Weak, TW]
      · try simp at h21
        obtain rfl : i = 12 := by omega
        have hbb : b = digD n 12 := by simpa [digD] using hbd
        have hdl := digD_len 12 n
        refine AWp.exit ?_
        repeat first | refine thenN ?_ | refine thenX ?_ | refine thenR ?_ | refine blockN ?_ | refine blockR ?_ | refine blockX ?_ | refine blockM rfl ?_
        -- region 11
        refine AWp.rseq E_ok [0, 1, 4, 5, 6, 7, 13, 19, 21] fun K hK => ?_
        simp [h21, hbb, hdl]
        try simp (disch := omega) only [wrap_i64]
        repeat refine ⟨by first | omega | assumption | (simp only [maxLen]; omega) | (intros; omega) | decide, ?_⟩
        refine meet.of (ref05_digit k (by omega)) ?_
        simp [h21, hbb, hdl]
        try simp (disch := omega) only [wrap_i64]
        repeat refine ⟨by first | omega | assumption | (simp only [maxLen]; omega) | (intros; omega) | decide, ?_⟩
        refine hK _ ?_
        clear hK K
        -- region 12
        refine AWp.rseq E_ok [0, 1, 4, 5, 6, 7, 13, 19, 21] fun K hK => ?_
        simp [h21, hbb, hdl]
        try simp (disch := omega) only [wrap_i64]
        repeat refine ⟨by first | omega | assumption | (simp only [maxLen]; omega) | (intros; omega) | decide, ?_⟩
        refine meet.of (ref05_luhn (digC k :: digD n 12) hall (by simp [digD_len])) ?_
        simp [h21, hbb, hdl]
        try simp (disch := omega) only [wrap_i64]
        repeat refine ⟨by first | omega | assumption | (simp only [maxLen]; omega) | (intros; omega) | decide, ?_⟩
        refine meet.of (ref05_digit (luhN (digC k :: digD n 12)) (by omega)) ?_
        simp [h21, hbb, hdl]
        try simp (disch := omega) only [wrap_i64]
        repeat refine ⟨by first | omega | assumption | (simp only [maxLen]; omega) | (intros; omega) | decide, ?_⟩
        refine hK _ ?_
        clear hK K
        refine AWp.ret ?_
        repeat first | refine thenN ?_ | refine thenX ?_ | refine thenR ?_ | refine blockN ?_ | refine blockR ?_ | refine blockX ?_ | refine blockM rfl ?_
        simp [RetOk, RV, RVs, hb]
end Go.Proofs.YtjljjnipjhbeaaaGreatDoor

set_option maxRecDepth 100000
set_option linter.unusedSimpArgs false
set_option linter.unusedVariables false
namespace Go.Proofs.YtjljjnipjhbeaaaGreatDoor
open Go Ab Pl
theorem law05_BarcodeMakes (k n : Int) : ACalls E.P 4 [.int .i64 k, .int .i64 n] (.d (.bool true)) := by
  refine ACalls.intro E_ok Tryz.func4 rfl rfl Tryz.ntmps4 Tryz.results4 (Nat.le_of_ble_eq_true rfl) fun hok base S0 w0 => ?_
  -- region 0
  refine AWp.rseq E_ok [0, 1, 4, 5, 6, 7, 8] fun K hK => ?_
  simp
  repeat refine ⟨by first | omega | assumption | (simp only [maxLen]; omega) | (intros; omega) | decide, ?_⟩
  refine hK _ ?_
  clear hK K
  -- region 1
  refine AWp.rseq E_ok [0, 1, 4, 5, 6, 7, 8] fun K hK => ?_
  simp
  repeat refine ⟨by first | omega | assumption | (simp only [maxLen]; omega) | (intros; omega) | decide, ?_⟩
  refine meet.of (barcode_Make k n) ?_
  simp
  repeat refine ⟨by first | omega | assumption | (simp only [maxLen]; omega) | (intros; omega) | decide, ?_⟩
  refine hK _ ?_
  clear hK K
  -- region 2
  refine AWp.rseq E_ok [0, 1, 4, 5, 6, 7, 8] fun K hK => ?_
  simp
  repeat refine ⟨by first | omega | assumption | (simp only [maxLen]; omega) | (intros; omega) | decide, ?_⟩
  refine meet.of (ref05_Make k n) ?_
  simp
  repeat refine ⟨by first | omega | assumption | (simp only [maxLen]; omega) | (intros; omega) | decide, ?_⟩
  refine hK _ ?_
  clear hK K
  -- region 3
  refine AWp.rseq E_ok [0, 1, 4, 5, 6, 7, 8] fun K hK => ?_
  simp
  repeat refine ⟨by first | omega | assumption | (simp only [maxLen]; omega) | (intros; omega) | decide, ?_⟩
  refine meet.of (law05_alive) ?_
  simp
  repeat refine ⟨by first | omega | assumption | (simp only [maxLen]; omega) | (intros; omega) | decide, ?_⟩
  refine hK _ ?_
  clear hK K
  refine AWp.ret ?_
  repeat first | refine thenN ?_ | refine thenX ?_ | refine thenR ?_ | refine blockN ?_ | refine blockR ?_ | refine blockX ?_ | refine blockM rfl ?_
  simp [RetOk, RV]
end Go.Proofs.YtjljjnipjhbeaaaGreatDoor
