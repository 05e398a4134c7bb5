/-
  What the functions compute that the statement reaches: contracts, and the plain laws between them. Conditions stand at each theorem.
-/
import Derived.Test.YtfaaceakmfokoaaDoorWalkThree
set_option linter.unusedVariables false
set_option linter.unusedSimpArgs false
set_option maxRecDepth 100000
set_option linter.unusedSimpArgs false
set_option linter.unusedVariables false
namespace Go.Proofs.YtfaaceakmfokoaaDoor
open Go Ab Pl
theorem ref36_Issues (p : Pat) (most unt : Int) (hp : PatOk p) : ACalls E.P 26 [encPat p, .int .i64 most, .int .i64 unt] (.d (encIsss (issR p most unt))) := by
  refine ACalls.intro E_ok Tryd.func26 rfl rfl Tryd.ntmps26 Tryd.results26 (Nat.le_of_ble_eq_true rfl) fun hok base S0 w0 => ?_
  have hfst := hp.2.2.2
  have hmin : min most 5000 = if 5000 < most then 5000 else most := by split <;> omega
  -- region 0
  refine AWp.rseq E_ok [0, 1, 2, 3, 6, 7, 8, 9, 10, 11, 12, 13, 14, 39, 65, 87] fun K hK => ?_
  simp [encPat_eq, encInts_eq, encIss_eq, encIsss_eq, monthD_1, monthD_2]
  try simp (disch := omega) only [wrap_i64]
  repeat refine ⟨by first | omega | assumption | (simp only [maxLen]; omega) | (intros; omega) | decide, ?_⟩
  refine hK _ ?_
  clear hK K
  -- region 1
  refine AWp.rseq E_ok [0, 1, 2, 3, 6, 7, 8, 9, 10, 11, 12, 13, 14, 39, 65, 87] fun K hK => ?_
  simp [encPat_eq, encInts_eq, encIss_eq, encIsss_eq, monthD_1, monthD_2]
  try simp (disch := omega) only [wrap_i64]
  repeat refine ⟨by first | omega | assumption | (simp only [maxLen]; omega) | (intros; omega) | decide, ?_⟩
  refine hK _ ?_
  clear hK K
  -- region 2
  refine AWp.rseq E_ok [0, 1, 2, 3, 6, 7, 8, 9, 10, 11, 12, 13, 14, 39, 65, 87] fun K hK => ?_
  simp [encPat_eq, encInts_eq, encIss_eq, encIsss_eq, monthD_1, monthD_2]
  try simp (disch := omega) only [wrap_i64]
  repeat refine ⟨by first | omega | assumption | (simp only [maxLen]; omega) | (intros; omega) | decide, ?_⟩
  refine hK _ ?_
  clear hK K
  -- region 3
  refine AWp.rseq E_ok [0, 1, 2, 3, 6, 7, 8, 9, 10, 11, 12, 13, 14, 39, 65, 87] fun K hK => ?_
  simp [encPat_eq, encInts_eq, encIss_eq, encIsss_eq, monthD_1, monthD_2]
  try simp (disch := omega) only [wrap_i64]
  repeat refine ⟨by first | omega | assumption | (simp only [maxLen]; omega) | (intros; omega) | decide, ?_⟩
  refine hK _ ?_
  clear hK K
  -- region 4
  refine AWp.rseq E_ok [0, 1, 2, 3, 6, 7, 8, 9, 10, 11, 12, 13, 14, 39, 65, 87] fun K hK => ?_
  simp [encPat_eq, encInts_eq, encIss_eq, encIsss_eq, monthD_1, monthD_2]
  try simp (disch := omega) only [wrap_i64]
  repeat refine ⟨by first | omega | assumption | (simp only [maxLen]; omega) | (intros; omega) | decide, ?_⟩
  refine meet.of (ref36_following p 0 hp (by omega)) ?_
  simp [encPat_eq, encInts_eq, encIss_eq, encIsss_eq, monthD_1, monthD_2]
  try simp (disch := omega) only [wrap_i64]
  repeat refine ⟨by first | omega | assumption | (simp only [maxLen]; omega) | (intros; omega) | decide, ?_⟩
  refine hK _ ?_
  clear hK K
  refine AWp.seq ?_
  refine AWp.block ?_
  refine AWp.loop (ι := { x : List Iss × Nat × Int × Int × (Option Int × Int) // IssI p most unt x.1 x.2.1 x.2.2.1 x.2.2.2.1 x.2.2.2.2 }) (fun x => match x with | ⟨⟨pre, f, vol, num, s⟩, hI⟩ => [(0, T.val (D.agg [D.int IntKind.i64 p.start, D.int IntKind.i64 p.every, D.int IntKind.i64 p.per, D.int IntKind.i64 p.first, (D.int IntKind.i64 0).slice (List.map (D.int IntKind.i64) p.skip), (D.int IntKind.i64 0).slice (List.map (D.int IntKind.i64) p.dbl)])), (1, T.val (D.int IntKind.i64 most)), (2, T.val (D.int IntKind.i64 unt)), (3, T.box [C.d (D.int IntKind.i64 p.start), C.d (D.int IntKind.i64 p.every), C.d (D.int IntKind.i64 p.per), C.d (D.int IntKind.i64 p.first), C.d ((D.int IntKind.i64 0).slice (List.map (D.int IntKind.i64) p.skip)), C.d ((D.int IntKind.i64 0).slice (List.map (D.int IntKind.i64) p.dbl))]), (7, T.own true (encIss zIss) (pre.map encIss)), (8, T.val (.int .i64 vol)), (9, T.val (.int .i64 num)), (10, T.val (.int .i64 (s.1.getD (-1)))), (11, T.val (.int .i64 s.2))]) (fun x => match x with | ⟨⟨pre, f, vol, num, s⟩, hI⟩ => f) ⟨([], 5000, p.first, 1, scan p 0), issI_start hp most unt⟩ ?_ ?_
  · simp [Weak, TW, encPat_eq, encInts_eq, encIss_eq, encIsss_eq, monthD_1, monthD_2]
  rintro ⟨⟨pre, f, vol, num, s⟩, hI⟩
  simp only
  try simp only at hI
  refine AWp.seq ?_
  -- region 5
  refine AWp.rseq E_ok [0, 1, 2, 3, 6, 7, 8, 9, 10, 11, 12, 13, 14, 39, 65, 87] fun K hK => ?_
  simp [encPat_eq, encInts_eq, encIss_eq, encIsss_eq, monthD_1, monthD_2]
  try simp (disch := omega) only [wrap_i64]
  repeat refine ⟨by first | omega | assumption | (simp only [maxLen]; omega) | (intros; omega) | decide, ?_⟩
  refine hK _ ?_
  clear hK K
  refine AWp.cond rfl (fun h39 => ?_) (fun h39 => ?_)
  · try simp at h39
    obtain ⟨d, k, rfl⟩ : ∃ d k, s = (some d, k) := by obtain ⟨so, k⟩ := s; cases so with | none => exact absurd h39.1.1.2 (by simp) | some d => exact ⟨d, k, rfl⟩
    have hlen : pre.length + f = 5000 := hI.2.1
    have hvn := hI.2.2.2.2
    obtain ⟨hd0, hk0, hk1⟩ := hI.2.2.2.2.2.2 d rfl
    simp only at hk0 hk1
    have hper := hp.2.2.1
    refine AWp.skip ?_
    repeat first | refine thenN ?_ | refine thenX ?_ | refine thenR ?_ | refine blockN ?_ | refine blockR ?_ | refine blockX ?_ | refine blockM rfl ?_
    refine AWp.block ?_
    -- region 6
    refine AWp.rseq E_ok [0, 1, 2, 3, 6, 7, 8, 9, 10, 11, 12, 13, 14, 39, 65, 87] fun K hK => ?_
    simp [encPat_eq, encInts_eq, encIss_eq, encIsss_eq, monthD_1, monthD_2]
    try simp (disch := omega) only [wrap_i64]
    repeat refine ⟨by first | omega | assumption | (simp only [maxLen]; omega) | (intros; omega) | decide, ?_⟩
    refine hK _ ?_
    clear hK K
    -- region 7
    refine AWp.rseq E_ok [0, 1, 2, 3, 6, 7, 8, 9, 10, 11, 12, 13, 14, 39, 65, 87] fun K hK => ?_
    simp [encPat_eq, encInts_eq, encIss_eq, encIsss_eq, monthD_1, monthD_2]
    try simp (disch := omega) only [wrap_i64]
    repeat refine ⟨by first | omega | assumption | (simp only [maxLen]; omega) | (intros; omega) | decide, ?_⟩
    refine meet.of (ref36_following p (k + 1) hp (by omega)) ?_
    simp [encPat_eq, encInts_eq, encIss_eq, encIsss_eq, monthD_1, monthD_2]
    try simp (disch := omega) only [wrap_i64]
    repeat refine ⟨by first | omega | assumption | (simp only [maxLen]; omega) | (intros; omega) | decide, ?_⟩
    refine hK _ ?_
    clear hK K
    refine AWp.seq ?_
    -- region 8
    refine AWp.rseqQ E_ok mixed [0, 1, 2, 3, 6, 7, 8, 9, 10, 11, 12, 13, 14, 39, 65, 87] (by kernel_rfl) fun K hK => ?_
    simp [encPat_eq, encInts_eq, encIss_eq, encIsss_eq, monthD_1, monthD_2]
    try simp (disch := omega) only [wrap_i64]
    repeat refine ⟨by first | omega | assumption | (simp only [maxLen]; omega) | (intros; omega) | decide, ?_⟩
    refine meet.of (ref36_month _) ?_
    simp [encPat_eq, encInts_eq, encIss_eq, encIsss_eq, monthD_1, monthD_2]
    try simp (disch := omega) only [wrap_i64]
    repeat refine ⟨by first | omega | assumption | (simp only [maxLen]; omega) | (intros; omega) | decide, ?_⟩
    refine meet.of (ref36_in p.dbl _) ?_
    simp [encPat_eq, encInts_eq, encIss_eq, encIsss_eq, monthD_1, monthD_2]
    try simp (disch := omega) only [wrap_i64]
    repeat refine ⟨by first | omega | assumption | (simp only [maxLen]; omega) | (intros; omega) | decide, ?_⟩
    refine hK _ ?_
    clear hK K
    refine AWp.cond rfl (fun h65 => ?_) (fun h65 => ?_)
    · try simp at h65
      have hdb := (dbl_iff (num := num) (d := d) hp (k := k + 1) (by omega) (by omega)).2 (by simpa using h65)
      obtain ⟨hst, hf1⟩ := issI_dbl hp hI (by rw [hmin]; exact h39.1.1.1) h39.1.2 h39.2 hdb
      have hsc := scan_at hp (k := k + 1) (d := (scan p (k + 1)).1.getD 0) (by omega) (by omega) (by have := (scan_neg hp (k := k + 1) (by omega) (by omega)).1 h65.1.2; obtain ⟨z, hz⟩ := Option.isSome_iff_exists.1 this; rw [hz]; rfl)
      -- region 9
      refine AWp.rseq E_ok [0, 1, 2, 3, 6, 7, 8, 9, 10, 11, 12, 13, 14, 39, 65, 87] fun K hK => ?_
      simp [encPat_eq, encInts_eq, encIss_eq, encIsss_eq, monthD_1, monthD_2]
      try simp (disch := omega) only [wrap_i64]
      repeat refine ⟨by first | omega | assumption | (simp only [maxLen]; omega) | (intros; omega) | decide, ?_⟩
      refine hK _ ?_
      clear hK K
      -- region 10
      refine AWp.rseq E_ok [0, 1, 2, 3, 6, 7, 8, 9, 10, 11, 12, 13, 14, 39, 65, 87] fun K hK => ?_
      simp [encPat_eq, encInts_eq, encIss_eq, encIsss_eq, monthD_1, monthD_2]
      try simp (disch := omega) only [wrap_i64]
      repeat refine ⟨by first | omega | assumption | (simp only [maxLen]; omega) | (intros; omega) | decide, ?_⟩
      refine hK _ ?_
      clear hK K
      -- region 11
      refine AWp.rend E_ok [0, 1, 2, 3, 6, 7, 8, 9, 10, 11, 12, 13, 14, 39, 65, 87] fun K hK => ?_
      simp [encPat_eq, encInts_eq, encIss_eq, encIsss_eq, monthD_1, monthD_2]
      try simp (disch := omega) only [wrap_i64]
      repeat refine ⟨by first | omega | assumption | (simp only [maxLen]; omega) | (intros; omega) | decide, ?_⟩
      refine meet.of (ref36_following p ((scan p (k + 1)).2 + 1) hp (by omega)) ?_
      simp [encPat_eq, encInts_eq, encIss_eq, encIsss_eq, monthD_1, monthD_2]
      try simp (disch := omega) only [wrap_i64]
      repeat refine ⟨by first | omega | assumption | (simp only [maxLen]; omega) | (intros; omega) | decide, ?_⟩
      refine hK _ ?_
      clear hK K
      repeat first | refine thenN ?_ | refine thenX ?_ | refine thenR ?_ | refine blockN ?_ | refine blockR ?_ | refine blockX ?_ | refine blockM rfl ?_
      -- region 12
      refine AWp.rseq E_ok [0, 1, 2, 3, 6, 7, 8, 9, 10, 11, 12, 13, 14, 39, 65, 87] fun K hK => ?_
      simp [encPat_eq, encInts_eq, encIss_eq, encIsss_eq, monthD_1, monthD_2]
      try simp (disch := omega) only [wrap_i64]
      repeat refine ⟨by first | omega | assumption | (simp only [maxLen]; omega) | (intros; omega) | decide, ?_⟩
      refine hK _ ?_
      clear hK K
      -- region 13
      refine AWp.rseq E_ok [0, 1, 2, 3, 6, 7, 8, 9, 10, 11, 12, 13, 14, 39, 65, 87] fun K hK => ?_
      simp [encPat_eq, encInts_eq, encIss_eq, encIsss_eq, monthD_1, monthD_2]
      try simp (disch := omega) only [wrap_i64]
      repeat refine ⟨by first | omega | assumption | (simp only [maxLen]; omega) | (intros; omega) | decide, ?_⟩
      refine hK _ ?_
      clear hK K
      refine AWp.seq ?_
      -- region 14
      refine AWp.rseq E_ok [0, 1, 2, 3, 6, 7, 8, 9, 10, 11, 12, 13, 14, 39, 65, 87] fun K hK => ?_
      simp [encPat_eq, encInts_eq, encIss_eq, encIsss_eq, monthD_1, monthD_2]
      try simp (disch := omega) only [wrap_i64]
      repeat refine ⟨by first | omega | assumption | (simp only [maxLen]; omega) | (intros; omega) | decide, ?_⟩
      refine hK _ ?_
      clear hK K
      refine AWp.cond rfl (fun h87 => ?_) (fun h87 => ?_)
      · try simp at h87
        first | rw [show volN p vol (num + 2) = vol + 1 from if_pos (by omega), show numN p (num + 2) = 1 from if_pos (by omega)] at hst | rw [show volN p vol (num + 1) = vol + 1 from if_pos (by omega), show numN p (num + 1) = 1 from if_pos (by omega)] at hst
        -- region 15
        refine AWp.rseq E_ok [0, 1, 2, 3, 6, 7, 8, 9, 10, 11, 12, 13, 14, 39, 65, 87] fun K hK => ?_
        simp [encPat_eq, encInts_eq, encIss_eq, encIsss_eq, monthD_1, monthD_2]
        try simp (disch := omega) only [wrap_i64]
        repeat refine ⟨by first | omega | assumption | (simp only [maxLen]; omega) | (intros; omega) | decide, ?_⟩
        refine hK _ ?_
        clear hK K
        -- region 16
        refine AWp.rend E_ok [0, 1, 2, 3, 6, 7, 8, 9, 10, 11, 12, 13, 14, 39, 65, 87] fun K hK => ?_
        simp [encPat_eq, encInts_eq, encIss_eq, encIsss_eq, monthD_1, monthD_2]
        try simp (disch := omega) only [wrap_i64]
        repeat refine ⟨by first | omega | assumption | (simp only [maxLen]; omega) | (intros; omega) | decide, ?_⟩
        refine hK _ ?_
        clear hK K
        repeat first | refine thenN ?_ | refine thenX ?_ | refine thenR ?_ | refine blockN ?_ | refine blockR ?_ | refine blockX ?_ | refine blockM rfl ?_
        -- region 17
        refine AWp.rseq E_ok [0, 1, 2, 3, 6, 7, 8, 9, 10, 11, 12, 13, 14, 39, 65, 87] fun K hK => ?_
        simp [encPat_eq, encInts_eq, encIss_eq, encIsss_eq, monthD_1, monthD_2]
        try simp (disch := omega) only [wrap_i64]
        repeat refine ⟨by first | omega | assumption | (simp only [maxLen]; omega) | (intros; omega) | decide, ?_⟩
        refine hK _ ?_
        clear hK K
        -- region 18
        refine AWp.rend E_ok [0, 1, 2, 3, 6, 7, 8, 9, 10, 11, 12, 13, 14, 39, 65, 87] fun K hK => ?_
        simp [encPat_eq, encInts_eq, encIss_eq, encIsss_eq, monthD_1, monthD_2]
        try simp (disch := omega) only [wrap_i64]
        repeat refine ⟨by first | omega | assumption | (simp only [maxLen]; omega) | (intros; omega) | decide, ?_⟩
        refine hK _ ?_
        clear hK K
        repeat first | refine thenN ?_ | refine thenX ?_ | refine thenR ?_ | refine blockN ?_ | refine blockR ?_ | refine blockX ?_ | refine blockM rfl ?_
        refine ⟨⟨(pre ++ [_], f - 1, _, _, _), hst⟩, ?_, by dsimp only; omega⟩
        try dsimp only
        simp [Weak, TW, encIss_eq]
        exact ⟨rfl, rfl⟩
      · try simp at h87
        first | rw [show volN p vol (num + 2) = vol from if_neg (by omega), show numN p (num + 2) = num + 1 + 1 by unfold numN; rw [if_neg (by omega)]; omega] at hst | rw [show volN p vol (num + 1) = vol from if_neg (by omega), show numN p (num + 1) = num + 1 from if_neg (by omega)] at hst
        refine AWp.skip ?_
        repeat first | refine thenN ?_ | refine thenX ?_ | refine thenR ?_ | refine blockN ?_ | refine blockR ?_ | refine blockX ?_ | refine blockM rfl ?_
        -- region 17
        refine AWp.rseq E_ok [0, 1, 2, 3, 6, 7, 8, 9, 10, 11, 12, 13, 14, 39, 65, 87] fun K hK => ?_
        simp [encPat_eq, encInts_eq, encIss_eq, encIsss_eq, monthD_1, monthD_2]
        try simp (disch := omega) only [wrap_i64]
        repeat refine ⟨by first | omega | assumption | (simp only [maxLen]; omega) | (intros; omega) | decide, ?_⟩
        refine hK _ ?_
        clear hK K
        -- region 18
        refine AWp.rend E_ok [0, 1, 2, 3, 6, 7, 8, 9, 10, 11, 12, 13, 14, 39, 65, 87] fun K hK => ?_
        simp [encPat_eq, encInts_eq, encIss_eq, encIsss_eq, monthD_1, monthD_2]
        try simp (disch := omega) only [wrap_i64]
        repeat refine ⟨by first | omega | assumption | (simp only [maxLen]; omega) | (intros; omega) | decide, ?_⟩
        refine hK _ ?_
        clear hK K
        repeat first | refine thenN ?_ | refine thenX ?_ | refine thenR ?_ | refine blockN ?_ | refine blockR ?_ | refine blockX ?_ | refine blockM rfl ?_
        refine ⟨⟨(pre ++ [_], f - 1, _, _, _), hst⟩, ?_, by dsimp only; omega⟩
        try dsimp only
        simp [Weak, TW, encIss_eq]
        exact ⟨rfl, rfl⟩
    · try simp at h65
      have hdb : dblB p num d (scan p (k + 1)) = false := by cases hc : dblB p num d (scan p (k + 1)) with | false => rfl | true => have h1 := (dbl_iff (num := num) (d := d) hp (k := k + 1) (by omega) (by omega)).1 hc; have h2 := h65 (by simpa using h1.1.1) h1.1.2; omega
      obtain ⟨hst, hf1⟩ := issI_one hp hI (by rw [hmin]; exact h39.1.1.1) h39.1.2 h39.2 hdb
      refine AWp.skip ?_
      repeat first | refine thenN ?_ | refine thenX ?_ | refine thenR ?_ | refine blockN ?_ | refine blockR ?_ | refine blockX ?_ | refine blockM rfl ?_
      -- region 12
      refine AWp.rseq E_ok [0, 1, 2, 3, 6, 7, 8, 9, 10, 11, 12, 13, 14, 39, 65, 87] fun K hK => ?_
      simp [encPat_eq, encInts_eq, encIss_eq, encIsss_eq, monthD_1, monthD_2]
      try simp (disch := omega) only [wrap_i64]
      repeat refine ⟨by first | omega | assumption | (simp only [maxLen]; omega) | (intros; omega) | decide, ?_⟩
      refine hK _ ?_
      clear hK K
      -- region 13
      refine AWp.rseq E_ok [0, 1, 2, 3, 6, 7, 8, 9, 10, 11, 12, 13, 14, 39, 65, 87] fun K hK => ?_
      simp [encPat_eq, encInts_eq, encIss_eq, encIsss_eq, monthD_1, monthD_2]
      try simp (disch := omega) only [wrap_i64]
      repeat refine ⟨by first | omega | assumption | (simp only [maxLen]; omega) | (intros; omega) | decide, ?_⟩
      refine hK _ ?_
      clear hK K
      refine AWp.seq ?_
      -- region 14
      refine AWp.rseq E_ok [0, 1, 2, 3, 6, 7, 8, 9, 10, 11, 12, 13, 14, 39, 65, 87] fun K hK => ?_
      simp [encPat_eq, encInts_eq, encIss_eq, encIsss_eq, monthD_1, monthD_2]
      try simp (disch := omega) only [wrap_i64]
      repeat refine ⟨by first | omega | assumption | (simp only [maxLen]; omega) | (intros; omega) | decide, ?_⟩
      refine hK _ ?_
      clear hK K
      refine AWp.cond rfl (fun h87 => ?_) (fun h87 => ?_)
      · try simp at h87
        first | rw [show volN p vol (num + 2) = vol + 1 from if_pos (by omega), show numN p (num + 2) = 1 from if_pos (by omega)] at hst | rw [show volN p vol (num + 1) = vol + 1 from if_pos (by omega), show numN p (num + 1) = 1 from if_pos (by omega)] at hst
        -- region 15
        refine AWp.rseq E_ok [0, 1, 2, 3, 6, 7, 8, 9, 10, 11, 12, 13, 14, 39, 65, 87] fun K hK => ?_
        simp [encPat_eq, encInts_eq, encIss_eq, encIsss_eq, monthD_1, monthD_2]
        try simp (disch := omega) only [wrap_i64]
        repeat refine ⟨by first | omega | assumption | (simp only [maxLen]; omega) | (intros; omega) | decide, ?_⟩
        refine hK _ ?_
        clear hK K
        -- region 16
        refine AWp.rend E_ok [0, 1, 2, 3, 6, 7, 8, 9, 10, 11, 12, 13, 14, 39, 65, 87] fun K hK => ?_
        simp [encPat_eq, encInts_eq, encIss_eq, encIsss_eq, monthD_1, monthD_2]
        try simp (disch := omega) only [wrap_i64]
        repeat refine ⟨by first | omega | assumption | (simp only [maxLen]; omega) | (intros; omega) | decide, ?_⟩
        refine hK _ ?_
        clear hK K
        repeat first | refine thenN ?_ | refine thenX ?_ | refine thenR ?_ | refine blockN ?_ | refine blockR ?_ | refine blockX ?_ | refine blockM rfl ?_
        -- region 17
        refine AWp.rseq E_ok [0, 1, 2, 3, 6, 7, 8, 9, 10, 11, 12, 13, 14, 39, 65, 87] fun K hK => ?_
        simp [encPat_eq, encInts_eq, encIss_eq, encIsss_eq, monthD_1, monthD_2]
        try simp (disch := omega) only [wrap_i64]
        repeat refine ⟨by first | omega | assumption | (simp only [maxLen]; omega) | (intros; omega) | decide, ?_⟩
        refine hK _ ?_
        clear hK K
        -- region 18
        refine AWp.rend E_ok [0, 1, 2, 3, 6, 7, 8, 9, 10, 11, 12, 13, 14, 39, 65, 87] fun K hK => ?_
        simp [encPat_eq, encInts_eq, encIss_eq, encIsss_eq, monthD_1, monthD_2]
        try simp (disch := omega) only [wrap_i64]
        repeat refine ⟨by first | omega | assumption | (simp only [maxLen]; omega) | (intros; omega) | decide, ?_⟩
        refine hK _ ?_
        clear hK K
        repeat first | refine thenN ?_ | refine thenX ?_ | refine thenR ?_ | refine blockN ?_ | refine blockR ?_ | refine blockX ?_ | refine blockM rfl ?_
        refine ⟨⟨(pre ++ [_], f - 1, _, _, _), hst⟩, ?_, by dsimp only; omega⟩
        try dsimp only
        simp [Weak, TW, encIss_eq]
        exact ⟨rfl, rfl⟩
      · try simp at h87
        first | rw [show volN p vol (num + 2) = vol from if_neg (by omega), show numN p (num + 2) = num + 1 + 1 by unfold numN; rw [if_neg (by omega)]; omega] at hst | rw [show volN p vol (num + 1) = vol from if_neg (by omega), show numN p (num + 1) = num + 1 from if_neg (by omega)] at hst
        refine AWp.skip ?_
        repeat first | refine thenN ?_ | refine thenX ?_ | refine thenR ?_ | refine blockN ?_ | refine blockR ?_ | refine blockX ?_ | refine blockM rfl ?_
        -- region 17
        refine AWp.rseq E_ok [0, 1, 2, 3, 6, 7, 8, 9, 10, 11, 12, 13, 14, 39, 65, 87] fun K hK => ?_
        simp [encPat_eq, encInts_eq, encIss_eq, encIsss_eq, monthD_1, monthD_2]
        try simp (disch := omega) only [wrap_i64]
        repeat refine ⟨by first | omega | assumption | (simp only [maxLen]; omega) | (intros; omega) | decide, ?_⟩
        refine hK _ ?_
        clear hK K
        -- region 18
        refine AWp.rend E_ok [0, 1, 2, 3, 6, 7, 8, 9, 10, 11, 12, 13, 14, 39, 65, 87] fun K hK => ?_
        simp [encPat_eq, encInts_eq, encIss_eq, encIsss_eq, monthD_1, monthD_2]
        try simp (disch := omega) only [wrap_i64]
        repeat refine ⟨by first | omega | assumption | (simp only [maxLen]; omega) | (intros; omega) | decide, ?_⟩
        refine hK _ ?_
        clear hK K
        repeat first | refine thenN ?_ | refine thenX ?_ | refine thenR ?_ | refine blockN ?_ | refine blockR ?_ | refine blockX ?_ | refine blockM rfl ?_
        refine ⟨⟨(pre ++ [_], f - 1, _, _, _), hst⟩, ?_, by dsimp only; omega⟩
        try dsimp only
        simp [Weak, TW, encIss_eq]
        exact ⟨rfl, rfl⟩
  · try simp at h39
    have hdn := issI_done hI (by intro hh; have := h39 (hmin ▸ hh.1.1.1) hh.1.1.2 hh.1.2; omega)
    refine AWp.exit ?_
    repeat first | refine thenN ?_ | refine thenX ?_ | refine thenR ?_ | refine blockN ?_ | refine blockR ?_ | refine blockX ?_ | refine blockM rfl ?_
    -- region 19
    refine AWp.rseq E_ok [0, 1, 2, 3, 6, 7, 8, 9, 10, 11, 12, 13, 14, 39, 65, 87] fun K hK => ?_
    simp [encPat_eq, encInts_eq, encIss_eq, encIsss_eq, monthD_1, monthD_2]
    try simp (disch := omega) only [wrap_i64]
    repeat refine ⟨by first | omega | assumption | (simp only [maxLen]; omega) | (intros; omega) | decide, ?_⟩
    refine hK _ ?_
    clear hK K
    refine AWp.ret ?_
    repeat first | refine thenN ?_ | refine thenX ?_ | refine thenR ?_ | refine blockN ?_ | refine blockR ?_ | refine blockX ?_ | refine blockM rfl ?_
    simp [RetOk, RV, RVs, hdn, encIss_eq, encIsss_eq]
end Go.Proofs.YtfaaceakmfokoaaDoor

set_option maxRecDepth 100000
set_option linter.unusedSimpArgs false
set_option linter.unusedVariables false
namespace Go.Proofs.YtfaaceakmfokoaaDoor
open Go Ab Pl
theorem ref36_List (p : Pat) (fr n : Int) (hp : PatOk p) : ACalls E.P 18 [encPat p, .int .i64 fr, .int .i64 n] (.d (encIsss (listR p fr n))) := by
  refine ACalls.intro E_ok Tryd.func18 rfl rfl Tryd.ntmps18 Tryd.results18 (Nat.le_of_ble_eq_true rfl) fun hok base S0 w0 => ?_
  obtain ⟨L, hL⟩ : ∃ L, allI p = L := ⟨_, rfl⟩
  have hia := iss_all hp
  have hln := allI_len p
  rw [hL] at hia hln
  have hm := Ok_i64 (hok (.int .i64 fr) (by simp))
  have hm2 := Ok_i64 (hok (.int .i64 n) (by simp))
  have hfr : 0 ≤ frR fr ∧ frR fr ≤ 9223372036854775807 := by unfold frR; split <;> omega
  -- region 0
  refine AWp.rseq E_ok [0, 1, 2, 3, 6, 7, 8, 9, 11, 14, 23, 35] fun K hK => ?_
  simp [encPat_eq, encInts_eq, encIss_eq, encIsss_eq, hia]
  try simp (disch := omega) only [wrap_i64]
  repeat refine ⟨by first | omega | assumption | (simp only [maxLen]; omega) | (intros; omega) | decide, ?_⟩
  refine hK _ ?_
  clear hK K
  -- region 1
  refine AWp.rseq E_ok [0, 1, 2, 3, 6, 7, 8, 9, 11, 14, 23, 35] fun K hK => ?_
  simp [encPat_eq, encInts_eq, encIss_eq, encIsss_eq, hia]
  try simp (disch := omega) only [wrap_i64]
  repeat refine ⟨by first | omega | assumption | (simp only [maxLen]; omega) | (intros; omega) | decide, ?_⟩
  refine hK _ ?_
  clear hK K
  refine AWp.seq ?_
  -- region 2
  refine AWp.rseq E_ok [0, 1, 2, 3, 6, 7, 8, 9, 11, 14, 23, 35] fun K hK => ?_
  simp [encPat_eq, encInts_eq, encIss_eq, encIsss_eq, hia]
  try simp (disch := omega) only [wrap_i64]
  repeat refine ⟨by first | omega | assumption | (simp only [maxLen]; omega) | (intros; omega) | decide, ?_⟩
  refine hK _ ?_
  clear hK K
  refine AWp.cond rfl (fun h11 => ?_) (fun h11 => ?_)
  · try simp at h11
    have hb : listR p fr n = [] := if_pos h11
    -- region 3
    refine AWp.rseq E_ok [0, 1, 2, 3, 6, 7, 8, 9, 11, 14, 23, 35] fun K hK => ?_
    simp [encPat_eq, encInts_eq, encIss_eq, encIsss_eq, hia]
    try simp (disch := omega) only [wrap_i64]
    repeat refine ⟨by first | omega | assumption | (simp only [maxLen]; omega) | (intros; omega) | decide, ?_⟩
    refine hK _ ?_
    clear hK K
    refine AWp.ret ?_
    repeat first | refine thenN ?_ | refine thenX ?_ | refine thenR ?_ | refine blockN ?_ | refine blockR ?_ | refine blockX ?_ | refine blockM rfl ?_
    first | (simp [RetOk, RV, hb, encIsss_eq]; done) | (rw [hls] at hs; simp [RetOk, RV, ← hs, encIsss_eq, encIss_eq])
  · try simp at h11
    have hls := list_ls (p := p) (fr := fr) (n := n) (by omega)
    rw [hL] at hls
    refine AWp.skip ?_
    repeat first | refine thenN ?_ | refine thenX ?_ | refine thenR ?_ | refine blockN ?_ | refine blockR ?_ | refine blockX ?_ | refine blockM rfl ?_
    refine AWp.join (ι := Unit) (fun _ => [(0, T.val (D.agg [D.int IntKind.i64 p.start, D.int IntKind.i64 p.every, D.int IntKind.i64 p.per, D.int IntKind.i64 p.first, (D.int IntKind.i64 0).slice (List.map (D.int IntKind.i64) p.skip), (D.int IntKind.i64 0).slice (List.map (D.int IntKind.i64) p.dbl)])), (1, T.val (.int .i64 (frR fr))), (2, T.val (.int .i64 (nR fr n))), (3, T.box [C.d (D.int IntKind.i64 p.start), C.d (D.int IntKind.i64 p.every), C.d (D.int IntKind.i64 p.per), C.d (D.int IntKind.i64 p.first), C.d ((D.int IntKind.i64 0).slice (List.map (D.int IntKind.i64) p.skip)), C.d ((D.int IntKind.i64 0).slice (List.map (D.int IntKind.i64) p.dbl))]), (7, T.nils)]) ?_ ?_
    · skip
      -- region 4
      refine AWp.rseq E_ok [0, 1, 2, 3, 6, 7, 8, 9, 11, 14, 23, 35] fun K hK => ?_
      simp [encPat_eq, encInts_eq, encIss_eq, encIsss_eq, hia]
      try simp (disch := omega) only [wrap_i64]
      repeat refine ⟨by first | omega | assumption | (simp only [maxLen]; omega) | (intros; omega) | decide, ?_⟩
      refine hK _ ?_
      clear hK K
      refine AWp.cond rfl (fun h14 => ?_) (fun h14 => ?_)
      · try simp at h14
        have e1 : frR fr = 0 := if_pos h14
        have e2 : nR fr n = n + fr := if_pos h14
        -- region 5
        refine AWp.rseq E_ok [0, 1, 2, 3, 6, 7, 8, 9, 11, 14, 23, 35] fun K hK => ?_
        simp [encPat_eq, encInts_eq, encIss_eq, encIsss_eq, hia]
        try simp (disch := omega) only [wrap_i64]
        repeat refine ⟨by first | omega | assumption | (simp only [maxLen]; omega) | (intros; omega) | decide, ?_⟩
        refine hK _ ?_
        clear hK K
        -- region 6
        refine AWp.rend E_ok [0, 1, 2, 3, 6, 7, 8, 9, 11, 14, 23, 35] fun K hK => ?_
        simp [encPat_eq, encInts_eq, encIss_eq, encIsss_eq, hia]
        try simp (disch := omega) only [wrap_i64]
        repeat refine ⟨by first | omega | assumption | (simp only [maxLen]; omega) | (intros; omega) | decide, ?_⟩
        refine hK _ ?_
        clear hK K
        repeat first | refine thenN ?_ | refine thenX ?_ | refine thenR ?_ | refine blockN ?_ | refine blockR ?_ | refine blockX ?_ | refine blockM rfl ?_
        refine ⟨(), ?_⟩
        simp [Weak, TW, encPat_eq, encInts_eq, encIss_eq, encIsss_eq, hia, e1, e2]
      · try simp at h14
        have e1 : frR fr = fr := if_neg (by omega)
        have e2 : nR fr n = n := if_neg (by omega)
        refine AWp.skip ?_
        repeat first | refine thenN ?_ | refine thenX ?_ | refine thenR ?_ | refine blockN ?_ | refine blockR ?_ | refine blockX ?_ | refine blockM rfl ?_
        refine ⟨(), ?_⟩
        simp [Weak, TW, encPat_eq, encInts_eq, encIss_eq, encIsss_eq, hia, e1, e2]
    rintro ⟨⟩
    try simp only
    -- region 7
    refine AWp.rseq E_ok [0, 1, 2, 3, 6, 7, 8, 9, 11, 14, 23, 35] fun K hK => ?_
    simp [encPat_eq, encInts_eq, encIss_eq, encIsss_eq, hia]
    try simp (disch := omega) only [wrap_i64]
    repeat refine ⟨by first | omega | assumption | (simp only [maxLen]; omega) | (intros; omega) | decide, ?_⟩
    refine meet.of (ref36_Issues p 5000 109572 hp) ?_
    simp [encPat_eq, encInts_eq, encIss_eq, encIsss_eq, hia]
    try simp (disch := omega) only [wrap_i64]
    repeat refine ⟨by first | omega | assumption | (simp only [maxLen]; omega) | (intros; omega) | decide, ?_⟩
    refine hK _ ?_
    clear hK K
    refine AWp.seq ?_
    -- region 8
    refine AWp.rseq E_ok [0, 1, 2, 3, 6, 7, 8, 9, 11, 14, 23, 35] fun K hK => ?_
    simp [encPat_eq, encInts_eq, encIss_eq, encIsss_eq, hia]
    try simp (disch := omega) only [wrap_i64]
    repeat refine ⟨by first | omega | assumption | (simp only [maxLen]; omega) | (intros; omega) | decide, ?_⟩
    refine hK _ ?_
    clear hK K
    refine AWp.block ?_
    refine AWp.range (l := L) (F := lsF (frR fr) (nR fr n)) (tot := lsF (frR fr) (nR fr n) (0, []) L) (fun k y => match y with | (i, o) => i = (k : Int) ∧ o.length ≤ k) (fun k y => match y with | (i, o) => [(0, T.val (D.agg [D.int IntKind.i64 p.start, D.int IntKind.i64 p.every, D.int IntKind.i64 p.per, D.int IntKind.i64 p.first, (D.int IntKind.i64 0).slice (List.map (D.int IntKind.i64) p.skip), (D.int IntKind.i64 0).slice (List.map (D.int IntKind.i64) p.dbl)])), (1, T.val (D.int IntKind.i64 (frR fr))), (2, T.val (D.int IntKind.i64 (nR fr n))), (7, T.own true (encIss zIss) (o.map encIss)), (8, T.val ((D.agg [D.int IntKind.i64 zIss.vol, D.int IntKind.i64 zIss.num, D.int IntKind.i64 zIss.last, D.int IntKind.i64 zIss.day, D.int IntKind.i64 zIss.st, D.int IntKind.i64 zIss.item]).slice (List.map encIss L))), (9, T.val (.int .i64 k))]) (0, []) ?_ rfl ?_ ?_
    · simp [Weak, TW, encPat_eq, encInts_eq, encIss_eq, encIsss_eq]
    · first | exact trivial | (simp; omega) | simp
    rintro k ⟨i, o⟩ hk hs hi
    try simp only at hi
    refine AWp.seq ?_
    -- region 9
    refine AWp.rseq E_ok [0, 1, 2, 3, 6, 7, 8, 9, 11, 14, 23, 35] fun K hK => ?_
    simp [encPat_eq, encInts_eq, encIss_eq, encIsss_eq, hia]
    try simp (disch := omega) only [wrap_i64]
    repeat refine ⟨by first | omega | assumption | (simp only [maxLen]; omega) | (intros; omega) | decide, ?_⟩
    refine hK _ ?_
    clear hK K
    refine AWp.cond rfl (fun h23 => ?_) (fun h23 => ?_)
    · try simp at h23
      obtain ⟨x, hx, hxx, hd⟩ := at_indexG (l := L) h23
      rw [hd] at hs
      refine AWp.skip ?_
      repeat first | refine thenN ?_ | refine thenX ?_ | refine thenR ?_ | refine blockN ?_ | refine blockR ?_ | refine blockX ?_ | refine blockM rfl ?_
      refine AWp.seq ?_
      refine AWp.block ?_
      -- region 11
      refine AWp.rseq E_ok [0, 1, 2, 3, 6, 7, 8, 9, 11, 14, 23, 35] fun K hK => ?_
      simp [encPat_eq, encInts_eq, encIss_eq, encIsss_eq, hia, h23, hx, hxx]
      try simp (disch := omega) only [wrap_i64]
      repeat refine ⟨by first | omega | assumption | (simp only [maxLen]; omega) | (intros; omega) | decide, ?_⟩
      refine hK _ ?_
      clear hK K
      refine AWp.cond rfl (fun h35 => ?_) (fun h35 => ?_)
      · try simp at h35
        rw [lsF, if_pos (by omega)] at hs
        -- region 12
        refine AWp.rend E_ok [0, 1, 2, 3, 6, 7, 8, 9, 11, 14, 23, 35] fun K hK => ?_
        simp [encPat_eq, encInts_eq, encIss_eq, encIsss_eq, hia, h23, hx, hxx]
        try simp (disch := omega) only [wrap_i64]
        repeat refine ⟨by first | omega | assumption | (simp only [maxLen]; omega) | (intros; omega) | decide, ?_⟩
        refine hK _ ?_
        clear hK K
        repeat first | refine thenN ?_ | refine thenX ?_ | refine thenR ?_ | refine blockN ?_ | refine blockR ?_ | refine blockX ?_ | refine blockM rfl ?_
        -- region 10
        refine AWp.rend E_ok [0, 1, 2, 3, 6, 7, 8, 9, 11, 14, 23, 35] fun K hK => ?_
        simp [encPat_eq, encInts_eq, encIss_eq, encIsss_eq, hia, h23, hx, hxx]
        try simp (disch := omega) only [wrap_i64]
        repeat refine ⟨by first | omega | assumption | (simp only [maxLen]; omega) | (intros; omega) | decide, ?_⟩
        refine hK _ ?_
        clear hK K
        repeat first | refine thenN ?_ | refine thenX ?_ | refine thenR ?_ | refine blockN ?_ | refine blockR ?_ | refine blockX ?_ | refine blockM rfl ?_
        have hw : IntKind.i64.wrap ((k : Int) + 1) = (k : Int) + 1 := by rw [wrap_i64] <;> omega
        skip
        refine ⟨_, h23, hs, ?_, ?_⟩
        · first | exact trivial | (simp; omega) | simp
        · simp [Weak, TW, hw, encPat_eq, encInts_eq, encIss_eq, encIsss_eq]
      · try simp at h35
        rw [lsF, if_neg (by omega)] at hs
        refine AWp.skip ?_
        repeat first | refine thenN ?_ | refine thenX ?_ | refine thenR ?_ | refine blockN ?_ | refine blockR ?_ | refine blockX ?_ | refine blockM rfl ?_
        -- region 10
        refine AWp.rend E_ok [0, 1, 2, 3, 6, 7, 8, 9, 11, 14, 23, 35] fun K hK => ?_
        simp [encPat_eq, encInts_eq, encIss_eq, encIsss_eq, hia, h23, hx, hxx]
        try simp (disch := omega) only [wrap_i64]
        repeat refine ⟨by first | omega | assumption | (simp only [maxLen]; omega) | (intros; omega) | decide, ?_⟩
        refine hK _ ?_
        clear hK K
        repeat first | refine thenN ?_ | refine thenX ?_ | refine thenR ?_ | refine blockN ?_ | refine blockR ?_ | refine blockX ?_ | refine blockM rfl ?_
        have hw : IntKind.i64.wrap ((k : Int) + 1) = (k : Int) + 1 := by rw [wrap_i64] <;> omega
        skip
        refine ⟨_, h23, hs, ?_, ?_⟩
        · first | exact trivial | (simp; omega) | simp
        · simp [Weak, TW, hw, encPat_eq, encInts_eq, encIss_eq, encIsss_eq]
    · try simp at h23
      obtain rfl : k = L.length := by omega
      simp [lsF] at hs
      refine AWp.exit ?_
      repeat first | refine thenN ?_ | refine thenX ?_ | refine thenR ?_ | refine blockN ?_ | refine blockR ?_ | refine blockX ?_ | refine blockM rfl ?_
      -- region 13
      refine AWp.rseq E_ok [0, 1, 2, 3, 6, 7, 8, 9, 11, 14, 23, 35] fun K hK => ?_
      simp [encPat_eq, encInts_eq, encIss_eq, encIsss_eq, hia, h23]
      try simp (disch := omega) only [wrap_i64]
      repeat refine ⟨by first | omega | assumption | (simp only [maxLen]; omega) | (intros; omega) | decide, ?_⟩
      refine hK _ ?_
      clear hK K
      refine AWp.ret ?_
      repeat first | refine thenN ?_ | refine thenX ?_ | refine thenR ?_ | refine blockN ?_ | refine blockR ?_ | refine blockX ?_ | refine blockM rfl ?_
      first | (simp [RetOk, RV, hb, encIsss_eq]; done) | (rw [hls] at hs; simp [RetOk, RV, ← hs, encIsss_eq, encIss_eq])
end Go.Proofs.YtfaaceakmfokoaaDoor

set_option maxRecDepth 100000
set_option linter.unusedSimpArgs false
set_option linter.unusedVariables false
namespace Go.Proofs.YtfaaceakmfokoaaDoor
open Go Ab Pl
open Go.RowKit Go.Shelf
attribute [local go_sem] Oper.semAt_some
theorem info30 : (Tryd.prog.info? 30).map (fun i => (i.zero, i.size, i.bytes)) = some (some (.agg #[.int .i64 0, .int .i64 0, .int .i64 0, .int .i64 0, .int .i64 0, .int .i64 0]), 6, 48) := by kernel_rfl
def flatI (l : List Iss) : List Value := l.flatMap fun x => (issV x).toList
theorem flatI_snoc (l : List Iss) (x : Iss) : flatI (l ++ [x]) = flatI l ++ (issV x).toList := by simp [flatI]
theorem own_heap {W W' : World} {b e sz n : Nat} {v : Value} {xs : List Value} (h : W.ownsRow b e sz v n xs) (hh : ∀ g, b ≤ g → g < W.heap.size → W'.heap[g]? = W.heap[g]?) : W'.ownsRow b e sz v n xs := by
  obtain ⟨h0, h1 | ⟨g, cap, cur, e1, e2, e3, e4⟩⟩ := h
  · exact ⟨h0, .inl h1⟩
  · exact ⟨h0, .inr ⟨g, cap, cur, e1, e2, (hh g e2 (Array.getElem?_eq_some_iff.1 e3).1).trans e3, e4⟩⟩
theorem own_base {W : World} {b b' e sz n : Nat} {v : Value} {xs : List Value} (h : W.ownsRow b e sz v n xs) (hb : b' ≤ b) : W.ownsRow b' e sz v n xs := by
  obtain ⟨h0, h1 | ⟨g, cap, cur, e1, e2, e3, e4⟩⟩ := h
  · exact ⟨h0, .inl h1⟩
  · exact ⟨h0, .inr ⟨g, cap, cur, e1, Nat.le_trans hb e2, e3, e4⟩⟩
theorem own_block {W : World} {b e sz n : Nat} {v : Value} {xs : List Value} (h : W.ownsRow b e sz v n xs) : ∀ g, v.ownBlock = some g → b ≤ g := by
  intro g hg
  obtain ⟨h0, ⟨rfl, _⟩ | ⟨g', cap, cur, rfl, e2, e3, e4⟩⟩ := h
  · cases hg
  · cases hg; exact e2
theorem cell_of {W : World} {b j : Nat} {arr : Array Value} {t : TypeId} {u : Value} (h : W.heap[b]? = some (.cells arr t)) (hj : arr[j]? = some u) : W.cell? ⟨b, j, none⟩ = some u := by
  simp [World.cell?, h, hj]
theorem cells_new (W : World) (x : Iss) (t : TypeId) : ∀ j u, (issV x).toList[j]? = some u → (W.alloc (.cells (issV x) t)).cell? ((⟨W.heap.size, 0, none⟩ : Addr).add j) = some u := fun j u h => by
  have hj : (issV x)[j]? = some u := by rw [← Array.getElem?_toList]; exact h
  have := cell_of (World.alloc_heap_new W (.cells (issV x) t)) hj
  by_cases h0 : j = 0
  · subst h0; exact this
  · have e : ((⟨W.heap.size, 0, none⟩ : Addr).add j) = ⟨W.heap.size, j, none⟩ := by simp [Addr.add, h0]
    rw [e]; exact this
theorem wr_id {x : Int} (h : -9223372036854775808 ≤ x ∧ x ≤ 9223372036854775807) : wrap64 x = x := by unfold wrap64; omega
theorem wr_one {k : Nat} (h : k + 1 ≤ 5000) : wrap64 ((k : Int) + 1) = (k : Int) + 1 := by unfold wrap64; omega
theorem wr_nat {k : Nat} (h : k + 1 ≤ 5000) : wrap64 (k : Int) = (k : Int) := by unfold wrap64; omega
theorem wr_sub {k : Nat} {f : Int} (h : k + 1 ≤ 5000) (h0 : 0 ≤ f) (h1 : f ≤ 9223372036854775807) : wrap64 ((k : Int) - f) = (k : Int) - f := by unfold wrap64; omega
theorem grow_keep {W W' : World} {v : Value} {tmp : Obj} {base : Nat} (hg : (W.alloc tmp).grownBy W' v.ownBlock) (ho : ∀ g, v.ownBlock = some g → base ≤ g) (k : Nat) (hk : k < W.heap.size) (hb : k < base) : W'.heap[k]? = W.heap[k]? :=
  (hg.block k (by simp; omega) (fun e => by have := ho k e.symm; omega)).trans (Below.heap_alloc W tmp k hk)
theorem Lie.eq {b : Nat} {os : List Obj} {W W' : World} (h : Lie b os W) (he : ∀ k, b ≤ k → k < b + os.length → W'.heap[k]? = W.heap[k]?) : Lie b os W' := fun i o hi => by
  have hl : i < os.length := (List.getElem?_eq_some_iff.1 hi).1
  exact (he _ (by omega) (by omega)).trans (h i o hi)
set_option maxHeartbeats 4000000 in
theorem List_neg {p : Pat} {s1 : Value} {a2 : Option Addr} {c2 : Nat} {S : Nat → Nat → Prop} {w : World} (h : PW p s1 (.slice a2 p.dbl.length c2) S w) (fr n : Int) (F0 : Nat) (hn1 : 1 ≤ n) (hr : n ≤ 9223372036854775807 ∧ -9223372036854775808 ≤ fr ∧ fr ≤ 9223372036854775807)
    (hf0 : fr < 0) (hf : (F0 : Int) = 0) :
    CallsIn Fence.wide 3 Tryd.prog 17 #[.agg (pvP p s1 (.slice a2 p.dbl.length c2)), .int .i64 fr, .int .i64 n] w fun e W' => ∃ v, e = .returned v ∧ W'.ownsRow w.heap.size 30 6 v (((allI p).drop F0).take (n + fr).toNat).length (flatI (((allI p).drop F0).take (n + fr).toNat)) ∧ Below w.heap.size w W' := by
  refine callsIn_of_wp_marks Tryd.func17 rfl trivial ?_ rfl
  simp only [Tryd.ntmps17, List.size_toArray, List.length_cons, List.length_nil, Nat.reduceAdd, Nat.reduceSub, Array.replicate_succ, Array.replicate_zero, List.push_toArray, List.append_toArray, List.nil_append, List.cons_append]
  obtain ⟨i0, hi, hz0, hz1, hz2⟩ := info_parts info30
  have hn : ¬ n < 1 := by omega
  have m0 : wrap64 (n + fr) = n + fr := wr_id ⟨by omega, by omega⟩
  gi_wp2_with (refine ⟨trivial, ?_⟩; gi_at_call 25; refine (issues_in _ rfl _).mono ?_; rintro e w' ⟨rfl, rfl⟩)
  have ha := allocs_get [.cells (pvP p s1 (.slice a2 p.dbl.length c2)) 24, .cells #[Value.int .i64 (0)] 3, .cells #[Value.int .i64 (n + fr)] 3, .cells #[Value.slice none 0 0] 37, .cells #[Value.int .i64 0] 3, .cells (pvP p s1 (.slice a2 p.dbl.length c2)) 24] w
  have hb1 := allocs_below [.cells (pvP p s1 (.slice a2 p.dbl.length c2)) 24, .cells #[Value.int .i64 (0)] 3, .cells #[Value.int .i64 (n + fr)] 3, .cells #[Value.slice none 0 0] 37, .cells #[Value.int .i64 0] 3, .cells (pvP p s1 (.slice a2 p.dbl.length c2)) 24] w
  have hs1 := allocs_size [.cells (pvP p s1 (.slice a2 p.dbl.length c2)) 24, .cells #[Value.int .i64 (0)] 3, .cells #[Value.int .i64 (n + fr)] 3, .cells #[Value.slice none 0 0] 37, .cells #[Value.int .i64 0] 3, .cells (pvP p s1 (.slice a2 p.dbl.length c2)) 24] w
  change Code.wpIn _ _ _ _ _ _ (allocs w [.cells (pvP p s1 (.slice a2 p.dbl.length c2)) 24, .cells #[Value.int .i64 (0)] 3, .cells #[Value.int .i64 (n + fr)] 3, .cells #[Value.slice none 0 0] 37, .cells #[Value.int .i64 0] 3, .cells (pvP p s1 (.slice a2 p.dbl.length c2)) 24])
  generalize allocs w [.cells (pvP p s1 (.slice a2 p.dbl.length c2)) 24, .cells #[Value.int .i64 (0)] 3, .cells #[Value.int .i64 (n + fr)] 3, .cells #[Value.slice none 0 0] 37, .cells #[Value.int .i64 0] 3, .cells (pvP p s1 (.slice a2 p.dbl.length c2)) 24] = w1 at ha hb1 hs1 ⊢
  replace hs1 : w1.heap.size = w.heap.size + 6 := hs1
  have hp1 : w1.heap[w.heap.size + 5]? = some (.cells (pvP p s1 (.slice a2 p.dbl.length c2)) 24) := ha 5 _ rfl
  have hl1 : Lie (w.heap.size + 1) [.cells #[Value.int .i64 (0)] 3, .cells #[Value.int .i64 (n + fr)] 3, .cells #[.slice none 0 0] 37, .cells #[.int .i64 0] 3] w1 := fun i o hi => by
    have := (List.getElem?_eq_some_iff.1 hi).1
    rw [show w.heap.size + 1 + i = w.heap.size + (i + 1) by omega]
    exact ha (i + 1) o (by match i, hi with | 0, hi => exact hi | 1, hi => exact hi | 2, hi => exact hi | 3, hi => exact hi | i + 4, hi => exact absurd this (by simp))
  refine range_X (gf := 33) (lb := #[.pointer (some ⟨w.heap.size + 5, 0, none⟩)]) (encs := fun x : Iss => #[.agg (issV x)]) (xs := allI p) (n₀ := w.heap.size) (Bp := w.heap.size + 5) rfl (enters_of Tryd.func33 (by kernel_rfl) rfl) (fun _ => rfl) (by omega) (by omega) (seq_x h hb1 hp1)
    (fun pre W => (∃ v, Lie (w.heap.size + 1) [.cells #[Value.int .i64 (0)] 3, .cells #[Value.int .i64 (n + fr)] 3, .cells #[v] 37, .cells #[.int .i64 (pre.length : Int)] 3] W ∧ W.ownsRow (w.heap.size + 9) 30 6 v (pre.length - F0) (flatI (pre.drop F0))) ∧ (F0 < pre.length → (pre.length : Int) - F0 ≤ n + fr) ∧ Below w.heap.size w W)
    (fun c pre W => c = .exit 0 ∧ (∃ (pre' : List Iss) (x : Iss) (v : Value), pre = pre' ++ [x] ∧ Lie (w.heap.size + 1) [.cells #[Value.int .i64 (0)] 3, .cells #[Value.int .i64 (n + fr)] 3, .cells #[v] 37, .cells #[.int .i64 (pre'.length : Int)] 3] W ∧ W.ownsRow (w.heap.size + 9) 30 6 v (pre'.length - F0) (flatI (pre'.drop F0)) ∧ (F0 < pre'.length → (pre'.length : Int) - F0 ≤ n + fr) ∧ F0 ≤ pre'.length ∧ n + fr ≤ (pre'.length : Int) - F0) ∧ Below w.heap.size w W)
    (fun x a' W => ∃ bx, w1.heap.size + 2 < bx ∧ W.heap[bx]? = some (.cells (issV x) 30) ∧ a' = { tmps := #[.agg (pvP p s1 (.slice a2 p.dbl.length c2)), .int .i64 fr, .int .i64 n, .pointer (some ⟨w.heap.size, 0, none⟩), undef, undef, .slice none 0 0, .pointer (some ⟨w.heap.size + 1, 0, none⟩), .pointer (some ⟨w.heap.size + 1 + 1, 0, none⟩), .pointer (some ⟨w.heap.size + 1 + 1 + 1, 0, none⟩), .pointer (some ⟨w.heap.size + 1 + 1 + 1 + 1, 0, none⟩), .pointer (some ⟨bx, 0, none⟩), .int .i64 n, .bool false, .int .i64 fr, .int .i64 n, .int .i64 fr, .bool true, .int .i64 n, .int .i64 fr, .int .i64 (n + fr), .agg (pvP p s1 (.slice a2 p.dbl.length c2)), .func (.func 33) #[] #[.pointer (some ⟨w.heap.size + 1 + 1 + 1 + 1 + 1, 0, none⟩)], .agg (issV x), undef, undef, undef, undef, undef, undef, undef, undef, undef, undef, undef, undef, undef, undef, undef, undef, undef, undef, undef, undef], defers := [] })
    (fun s A A' ⟨⟨v, hl, ho⟩, hi, hb⟩ ht => ⟨⟨v, hl.turn ht (by simp; omega), own_heap ho fun g hg hl' => ht.block g hl' (by omega)⟩, hi, hb.trans (ht.below hb.size (by omega))⟩)
    (fun c s A A' ⟨hc, ⟨pre', x, v, e1, hl, ho, e2⟩, hb⟩ ht => ⟨hc, ⟨pre', x, v, e1, hl.turn ht (by simp; omega), own_heap ho fun g hg hl' => ht.block g hl' (by omega), e2⟩, hb.trans (ht.below hb.size (by omega))⟩)
    (fun s A o ⟨⟨v, hl, ho⟩, hi, hb⟩ => ⟨⟨v, hl.put (by simp; omega), own_heap ho fun g hg hl' => World.putObj_heap_other (by omega)⟩, hi, hb.trans (put_below hb.size (by omega) o)⟩)
    (fun c s A o ⟨hc, ⟨pre', x, v, e1, hl, ho, e2⟩, hb⟩ => ⟨hc, ⟨pre', x, v, e1, hl.put (by simp; omega), own_heap ho fun g hg hl' => World.putObj_heap_other (by omega), e2⟩, hb.trans (put_below hb.size (by omega) o)⟩)
    (fun x a' A o ⟨bx, h1, h2, h3⟩ => ⟨bx, h1, (World.putObj_heap_other (by omega)).trans h2, h3⟩)
    ⟨⟨_, hl1, by simpa [flatI] using World.ownsRow_nil w1 (w.heap.size + 9) 30 6⟩, by simp, hb1⟩ ?assign ?body ?done ?stop
  case assign =>
    rintro pre x W K ⟨⟨v, hl, ho⟩, hi', hb⟩ hsz hK
    gi_wp2
    exact hK _ _ ⟨(Below.refl _ W).alloc hb.size _, fun k _ hk => Below.heap_alloc W _ k hk⟩ ⟨⟨v, hl.turn (B := w1.heap.size + 2) (Turn.alloc _) (by simp; omega), own_heap ho fun g hg hl' => Below.heap_alloc W _ g hl'⟩, hi', hb.trans ((Below.refl _ W).alloc hb.size _)⟩ ⟨W.heap.size, hsz, World.alloc_heap_new W _, rfl⟩
  case body =>
    rintro pre x a' W ⟨⟨v, hl, ho⟩, hnn, hb⟩ ⟨bx, hbx, hcx, rfl⟩ hsz hpre
    replace hnn : Hid (F0 < pre.length → (pre.length : Int) - F0 ≤ n + fr) := hnn
    clear ha hb1 hl1 m0
    have cf : W.cell? ⟨w.heap.size + 1, 0, none⟩ = some (.int .i64 (0)) := (box1 (hl 0 _ rfl)).1
    have cc : W.cell? ⟨w.heap.size + 1 + 1, 0, none⟩ = some (.int .i64 (n + fr)) := (box1 (hl 1 _ rfl)).1
    have co : W.cell? ⟨w.heap.size + 1 + 1 + 1, 0, none⟩ = some v := (box1 (hl 2 _ rfl)).1
    have ck : W.cell? ⟨w.heap.size + 1 + 1 + 1 + 1, 0, none⟩ = some (.int .i64 (pre.length : Int)) := (box1 (hl 3 _ rfl)).1
    have fk : W.frozen? ⟨w.heap.size + 1 + 1 + 1 + 1, 0, none⟩ = false := (box1 (hl 3 _ rfl)).2
    have fo : W.frozen? ⟨w.heap.size + 1 + 1 + 1, 0, none⟩ = false := (box1 (hl 2 _ rfl)).2
    obtain ⟨⟨x0, x1, x2, x3, x4, x5⟩, _⟩ := box6 hcx
    have h5 : pre.length + 1 ≤ 5000 := by have h1 := hpre.length_le; have h2 := allI_len p; rw [List.length_append, List.length_singleton] at h1; omega
    have hlE : ∀ V : World, (∀ k, k < W.heap.size → k < w.heap.size + 9 → V.heap[k]? = W.heap[k]?) → Lie (w.heap.size + 1) [.cells #[Value.int .i64 (0)] 3, .cells #[Value.int .i64 (n + fr)] 3, .cells #[v] 37, .cells #[.int .i64 (pre.length : Int)] 3] V := fun V hV => hl.eq (fun k h1 h2 => hV k (by simp at h2; omega) (by simp at h2; omega))
    have hb3 : w.heap.size + 9 ≤ (W.alloc (.cells (issV x) 30)).heap.size := by simp; omega
    by_cases g1 : 0 ≤ (pre.length : Int)
    · by_cases g2 : n + fr ≤ (pre.length : Int)
      · have z1 : F0 ≤ pre.length := by omega
        have z2 : n + fr ≤ (pre.length : Int) - F0 := by omega
        have m1 : wrap64 ((pre.length : Int) + 1) = (pre.length : Int) + 1 := wr_one h5
        have m2 : wrap64 ((pre.length : Int)) = (pre.length : Int) := wr_nat h5
        replace z1 : Hid _ := z1
        replace z2 : Hid _ := z2
        replace hlE : Hid _ := hlE
        replace hf : Hid _ := hf
        replace hf0 : Hid _ := hf0
        replace hn1 : Hid _ := hn1
        replace hr : Hid _ := hr
        replace hn : Hid _ := hn
        replace hb3 : Hid _ := hb3
        clear h5 hpre
        gi_wp2
        exact ⟨Keep.refl _, rfl, ⟨pre, x, v, rfl, hl, ho, hnn, z1, z2⟩, hb⟩
      · have hm1 : pre.length - F0 + 1 ≤ maxLen := by simp only [maxLen]; omega
        have hm2 : (pre.length - F0 + 1) * 48 ≤ 140737488355328 := by omega
        have hob := own_block ho
        replace hm1 : Hid _ := hm1
        replace hm2 : Hid _ := hm2
        replace hb3 : Hid _ := hb3
        have z3 : (F0 < (pre ++ [x]).length → ((pre ++ [x]).length : Int) - F0 ≤ n + fr) := fun _ => by rw [List.length_append, List.length_singleton]; omega
        have m1 : wrap64 ((pre.length : Int) + 1) = (pre.length : Int) + 1 := wr_one h5
        have m2 : wrap64 ((pre.length : Int)) = (pre.length : Int) := wr_nat h5
        replace z3 : Hid _ := z3
        replace hob : Hid _ := hob
        replace hlE : Hid _ := hlE
        replace g1 : Hid _ := g1
        replace hf : Hid _ := hf
        replace hf0 : Hid _ := hf0
        replace hn1 : Hid _ := hn1
        replace hr : Hid _ := hr
        replace hn : Hid _ := hn
        replace hs1 : Hid _ := hs1
        clear h5 hpre
        gi_wp2_with (gi_at_builtin; refine wpListIn_append_own _ rfl _ _ 37 rfl (w.heap.size + 9) 30 i0 (.agg #[.int .i64 0, .int .i64 0, .int .i64 0, .int .i64 0, .int .i64 0, .int .i64 0]) 6 48 Tryd.underlying37 hi hz0 hz1 hz2 rfl (by decide) _ _ _ rfl (ho.alloc _) ⟨W.heap.size, 0, none⟩ 1 1 (issV x).toList rfl rfl (cells_new _ _ _) (by simp [Value.oneCell']) hm1 hm2 hb3 ?_; intro v' V hown' hgrow _; obtain ⟨g', cap', rfl⟩ := ownsRow_succ hown'; have hgk := grow_keep hgrow (show ∀ g, v.ownBlock = some g → w.heap.size + 9 ≤ g from hob); have hlV := (show ∀ V : World, _ → _ from hlE) V hgk; have coV := (box1 (b := w.heap.size + 1 + 1 + 1) (hlV 2 _ rfl)).1; have foV := (box1 (b := w.heap.size + 1 + 1 + 1) (hlV 2 _ rfl)).2; have ckV := (box1 (b := w.heap.size + 1 + 1 + 1 + 1) (hlV 3 _ rfl)).1; have fkV := (box1 (b := w.heap.size + 1 + 1 + 1 + 1) (hlV 3 _ rfl)).2)
        clear m1 m2
        unfold Hid at z3 hob hlE g1 hf hf0 hn1 hr hn hs1
        have hkV : Keep w.heap.size (KX (w.heap.size + 6) (w.heap.size + 5)) W V := ⟨((Below.refl w.heap.size W).alloc hb.size _).grown hgrow (by simp; have := hb.size; omega) (fun k e => by have := hob k e; omega), fun k hk hlt => hgk k hlt (by unfold KX at hk; omega)⟩
        have hk : Keep w.heap.size (KX (w.heap.size + 6) (w.heap.size + 5)) W ((V.setCell ⟨w.heap.size + 1 + 1 + 1, 0, none⟩ (.slice (some ⟨g', 0, none⟩) (pre.length - F0 + 1) cap')).setCell ⟨w.heap.size + 1 + 1 + 1 + 1, 0, none⟩ (.int .i64 ((pre.length : Int) + 1))) :=
          (hkV.trans (keep_set (by omega) (by unfold KX; omega))).trans (keep_set (by omega) (by unfold KX; omega))
        have hdr : (pre ++ [x]).drop F0 = pre.drop F0 ++ [x] := List.drop_append_of_le_length (by omega)
        have l2 := hlV.set (i := 2) (j := 0) (v := .slice (some ⟨g', 0, none⟩) (pre.length - F0 + 1) cap') (by simp) (box1_set (hlV 2 _ rfl))
        have l3 := l2.set (i := 3) (j := 0) (v := .int .i64 ((pre.length : Int) + 1)) (by simp) (box1_set (l2 3 _ rfl))
        refine ⟨by rw [hs1]; exact hk, ⟨_, by simpa using l3, ?_⟩, z3, hb.trans hk.below⟩
        rw [hdr, flatI_snoc, show (pre ++ [x]).length - F0 = pre.length - F0 + 1 by simp; omega]
        exact own_heap hown' fun g hg _ => (set_other (by simp; omega)).trans (set_other (by simp; omega))
    · exact absurd (Int.natCast_nonneg _) g1
  case done =>
    rintro W ⟨⟨v, hl, ho⟩, hnn, hb⟩ hD
    have co : W.cell? ⟨w.heap.size + 1 + 1 + 1, 0, none⟩ = some v := (box1 (hl 2 _ rfl)).1
    gi_wp2
    refine ⟨by simp, .inl ⟨_, _, rfl, run_takeDeferred hD, ?_⟩⟩
    refine ⟨_, results_tmp rfl _ _ _, v, rfl, ?_, hb.trans (put_below hb.size (by omega) _)⟩
    rw [list_all (C := n + fr) hnn, List.length_drop]
    exact own_base (own_heap ho fun g hg hl' => World.putObj_heap_other (by omega)) (by omega)
  case stop =>
    rintro c pre W hpre ⟨rfl, ⟨pre', x, v, rfl, hl, ho, e2, e3, e4⟩, hb⟩ hD
    have co : W.cell? ⟨w.heap.size + 1 + 1 + 1, 0, none⟩ = some v := (box1 (hl 2 _ rfl)).1
    gi_wp2
    refine ⟨by simp, .inl ⟨_, _, rfl, run_takeDeferred hD, ?_⟩⟩
    refine ⟨_, results_tmp rfl _ _ _, v, rfl, ?_, hb.trans (put_below hb.size (by omega) _)⟩
    rw [list_cut hpre e2 e3 e4, List.length_drop]
    exact own_base (own_heap ho fun g hg hl' => World.putObj_heap_other (by omega)) (by omega)
set_option maxHeartbeats 4000000 in
theorem List_pos {p : Pat} {s1 : Value} {a2 : Option Addr} {c2 : Nat} {S : Nat → Nat → Prop} {w : World} (h : PW p s1 (.slice a2 p.dbl.length c2) S w) (fr n : Int) (F0 : Nat) (hn1 : 1 ≤ n) (hr : n ≤ 9223372036854775807 ∧ -9223372036854775808 ≤ fr ∧ fr ≤ 9223372036854775807)
    (hf0 : ¬ fr < 0) (hf : (F0 : Int) = fr) :
    CallsIn Fence.wide 3 Tryd.prog 17 #[.agg (pvP p s1 (.slice a2 p.dbl.length c2)), .int .i64 fr, .int .i64 n] w fun e W' => ∃ v, e = .returned v ∧ W'.ownsRow w.heap.size 30 6 v (((allI p).drop F0).take (n).toNat).length (flatI (((allI p).drop F0).take (n).toNat)) ∧ Below w.heap.size w W' := by
  refine callsIn_of_wp_marks Tryd.func17 rfl trivial ?_ rfl
  simp only [Tryd.ntmps17, List.size_toArray, List.length_cons, List.length_nil, Nat.reduceAdd, Nat.reduceSub, Array.replicate_succ, Array.replicate_zero, List.push_toArray, List.append_toArray, List.nil_append, List.cons_append]
  obtain ⟨i0, hi, hz0, hz1, hz2⟩ := info_parts info30
  have hn : ¬ n < 1 := by omega
  gi_wp2_with (refine ⟨trivial, ?_⟩; gi_at_call 25; refine (issues_in _ rfl _).mono ?_; rintro e w' ⟨rfl, rfl⟩)
  have ha := allocs_get [.cells (pvP p s1 (.slice a2 p.dbl.length c2)) 24, .cells #[Value.int .i64 (fr)] 3, .cells #[Value.int .i64 (n)] 3, .cells #[Value.slice none 0 0] 37, .cells #[Value.int .i64 0] 3, .cells (pvP p s1 (.slice a2 p.dbl.length c2)) 24] w
  have hb1 := allocs_below [.cells (pvP p s1 (.slice a2 p.dbl.length c2)) 24, .cells #[Value.int .i64 (fr)] 3, .cells #[Value.int .i64 (n)] 3, .cells #[Value.slice none 0 0] 37, .cells #[Value.int .i64 0] 3, .cells (pvP p s1 (.slice a2 p.dbl.length c2)) 24] w
  have hs1 := allocs_size [.cells (pvP p s1 (.slice a2 p.dbl.length c2)) 24, .cells #[Value.int .i64 (fr)] 3, .cells #[Value.int .i64 (n)] 3, .cells #[Value.slice none 0 0] 37, .cells #[Value.int .i64 0] 3, .cells (pvP p s1 (.slice a2 p.dbl.length c2)) 24] w
  change Code.wpIn _ _ _ _ _ _ (allocs w [.cells (pvP p s1 (.slice a2 p.dbl.length c2)) 24, .cells #[Value.int .i64 (fr)] 3, .cells #[Value.int .i64 (n)] 3, .cells #[Value.slice none 0 0] 37, .cells #[Value.int .i64 0] 3, .cells (pvP p s1 (.slice a2 p.dbl.length c2)) 24])
  generalize allocs w [.cells (pvP p s1 (.slice a2 p.dbl.length c2)) 24, .cells #[Value.int .i64 (fr)] 3, .cells #[Value.int .i64 (n)] 3, .cells #[Value.slice none 0 0] 37, .cells #[Value.int .i64 0] 3, .cells (pvP p s1 (.slice a2 p.dbl.length c2)) 24] = w1 at ha hb1 hs1 ⊢
  replace hs1 : w1.heap.size = w.heap.size + 6 := hs1
  have hp1 : w1.heap[w.heap.size + 5]? = some (.cells (pvP p s1 (.slice a2 p.dbl.length c2)) 24) := ha 5 _ rfl
  have hl1 : Lie (w.heap.size + 1) [.cells #[Value.int .i64 (fr)] 3, .cells #[Value.int .i64 (n)] 3, .cells #[.slice none 0 0] 37, .cells #[.int .i64 0] 3] w1 := fun i o hi => by
    have := (List.getElem?_eq_some_iff.1 hi).1
    rw [show w.heap.size + 1 + i = w.heap.size + (i + 1) by omega]
    exact ha (i + 1) o (by match i, hi with | 0, hi => exact hi | 1, hi => exact hi | 2, hi => exact hi | 3, hi => exact hi | i + 4, hi => exact absurd this (by simp))
  refine range_X (gf := 33) (lb := #[.pointer (some ⟨w.heap.size + 5, 0, none⟩)]) (encs := fun x : Iss => #[.agg (issV x)]) (xs := allI p) (n₀ := w.heap.size) (Bp := w.heap.size + 5) rfl (enters_of Tryd.func33 (by kernel_rfl) rfl) (fun _ => rfl) (by omega) (by omega) (seq_x h hb1 hp1)
    (fun pre W => (∃ v, Lie (w.heap.size + 1) [.cells #[Value.int .i64 (fr)] 3, .cells #[Value.int .i64 (n)] 3, .cells #[v] 37, .cells #[.int .i64 (pre.length : Int)] 3] W ∧ W.ownsRow (w.heap.size + 9) 30 6 v (pre.length - F0) (flatI (pre.drop F0))) ∧ (F0 < pre.length → (pre.length : Int) - F0 ≤ n) ∧ Below w.heap.size w W)
    (fun c pre W => c = .exit 0 ∧ (∃ (pre' : List Iss) (x : Iss) (v : Value), pre = pre' ++ [x] ∧ Lie (w.heap.size + 1) [.cells #[Value.int .i64 (fr)] 3, .cells #[Value.int .i64 (n)] 3, .cells #[v] 37, .cells #[.int .i64 (pre'.length : Int)] 3] W ∧ W.ownsRow (w.heap.size + 9) 30 6 v (pre'.length - F0) (flatI (pre'.drop F0)) ∧ (F0 < pre'.length → (pre'.length : Int) - F0 ≤ n) ∧ F0 ≤ pre'.length ∧ n ≤ (pre'.length : Int) - F0) ∧ Below w.heap.size w W)
    (fun x a' W => ∃ bx, w1.heap.size + 2 < bx ∧ W.heap[bx]? = some (.cells (issV x) 30) ∧ a' = { tmps := #[.agg (pvP p s1 (.slice a2 p.dbl.length c2)), .int .i64 fr, .int .i64 n, .pointer (some ⟨w.heap.size, 0, none⟩), undef, undef, .slice none 0 0, .pointer (some ⟨w.heap.size + 1, 0, none⟩), .pointer (some ⟨w.heap.size + 1 + 1, 0, none⟩), .pointer (some ⟨w.heap.size + 1 + 1 + 1, 0, none⟩), .pointer (some ⟨w.heap.size + 1 + 1 + 1 + 1, 0, none⟩), .pointer (some ⟨bx, 0, none⟩), .int .i64 n, .bool false, .int .i64 fr, .int .i64 n, .int .i64 fr, .bool false, undef, undef, undef, .agg (pvP p s1 (.slice a2 p.dbl.length c2)), .func (.func 33) #[] #[.pointer (some ⟨w.heap.size + 1 + 1 + 1 + 1 + 1, 0, none⟩)], .agg (issV x), undef, undef, undef, undef, undef, undef, undef, undef, undef, undef, undef, undef, undef, undef, undef, undef, undef, undef, undef, undef], defers := [] })
    (fun s A A' ⟨⟨v, hl, ho⟩, hi, hb⟩ ht => ⟨⟨v, hl.turn ht (by simp; omega), own_heap ho fun g hg hl' => ht.block g hl' (by omega)⟩, hi, hb.trans (ht.below hb.size (by omega))⟩)
    (fun c s A A' ⟨hc, ⟨pre', x, v, e1, hl, ho, e2⟩, hb⟩ ht => ⟨hc, ⟨pre', x, v, e1, hl.turn ht (by simp; omega), own_heap ho fun g hg hl' => ht.block g hl' (by omega), e2⟩, hb.trans (ht.below hb.size (by omega))⟩)
    (fun s A o ⟨⟨v, hl, ho⟩, hi, hb⟩ => ⟨⟨v, hl.put (by simp; omega), own_heap ho fun g hg hl' => World.putObj_heap_other (by omega)⟩, hi, hb.trans (put_below hb.size (by omega) o)⟩)
    (fun c s A o ⟨hc, ⟨pre', x, v, e1, hl, ho, e2⟩, hb⟩ => ⟨hc, ⟨pre', x, v, e1, hl.put (by simp; omega), own_heap ho fun g hg hl' => World.putObj_heap_other (by omega), e2⟩, hb.trans (put_below hb.size (by omega) o)⟩)
    (fun x a' A o ⟨bx, h1, h2, h3⟩ => ⟨bx, h1, (World.putObj_heap_other (by omega)).trans h2, h3⟩)
    ⟨⟨_, hl1, by simpa [flatI] using World.ownsRow_nil w1 (w.heap.size + 9) 30 6⟩, by simp, hb1⟩ ?assign ?body ?done ?stop
  case assign =>
    rintro pre x W K ⟨⟨v, hl, ho⟩, hi', hb⟩ hsz hK
    gi_wp2
    exact hK _ _ ⟨(Below.refl _ W).alloc hb.size _, fun k _ hk => Below.heap_alloc W _ k hk⟩ ⟨⟨v, hl.turn (B := w1.heap.size + 2) (Turn.alloc _) (by simp; omega), own_heap ho fun g hg hl' => Below.heap_alloc W _ g hl'⟩, hi', hb.trans ((Below.refl _ W).alloc hb.size _)⟩ ⟨W.heap.size, hsz, World.alloc_heap_new W _, rfl⟩
  case body =>
    rintro pre x a' W ⟨⟨v, hl, ho⟩, hnn, hb⟩ ⟨bx, hbx, hcx, rfl⟩ hsz hpre
    replace hnn : Hid (F0 < pre.length → (pre.length : Int) - F0 ≤ n) := hnn
    clear ha hb1 hl1
    have cf : W.cell? ⟨w.heap.size + 1, 0, none⟩ = some (.int .i64 (fr)) := (box1 (hl 0 _ rfl)).1
    have cc : W.cell? ⟨w.heap.size + 1 + 1, 0, none⟩ = some (.int .i64 (n)) := (box1 (hl 1 _ rfl)).1
    have co : W.cell? ⟨w.heap.size + 1 + 1 + 1, 0, none⟩ = some v := (box1 (hl 2 _ rfl)).1
    have ck : W.cell? ⟨w.heap.size + 1 + 1 + 1 + 1, 0, none⟩ = some (.int .i64 (pre.length : Int)) := (box1 (hl 3 _ rfl)).1
    have fk : W.frozen? ⟨w.heap.size + 1 + 1 + 1 + 1, 0, none⟩ = false := (box1 (hl 3 _ rfl)).2
    have fo : W.frozen? ⟨w.heap.size + 1 + 1 + 1, 0, none⟩ = false := (box1 (hl 2 _ rfl)).2
    obtain ⟨⟨x0, x1, x2, x3, x4, x5⟩, _⟩ := box6 hcx
    have h5 : pre.length + 1 ≤ 5000 := by have h1 := hpre.length_le; have h2 := allI_len p; rw [List.length_append, List.length_singleton] at h1; omega
    have hlE : ∀ V : World, (∀ k, k < W.heap.size → k < w.heap.size + 9 → V.heap[k]? = W.heap[k]?) → Lie (w.heap.size + 1) [.cells #[Value.int .i64 (fr)] 3, .cells #[Value.int .i64 (n)] 3, .cells #[v] 37, .cells #[.int .i64 (pre.length : Int)] 3] V := fun V hV => hl.eq (fun k h1 h2 => hV k (by simp at h2; omega) (by simp at h2; omega))
    have hb3 : w.heap.size + 9 ≤ (W.alloc (.cells (issV x) 30)).heap.size := by simp; omega
    by_cases g1 : fr ≤ (pre.length : Int)
    · by_cases g2 : n ≤ (pre.length : Int) - (fr)
      · have z1 : F0 ≤ pre.length := by omega
        have z2 : n ≤ (pre.length : Int) - F0 := by omega
        have m1 : wrap64 ((pre.length : Int) + 1) = (pre.length : Int) + 1 := wr_one h5
        have m2 : wrap64 ((pre.length : Int) - (fr)) = (pre.length : Int) - (fr) := wr_sub h5 (by omega) (by omega)
        replace z1 : Hid _ := z1
        replace z2 : Hid _ := z2
        replace hlE : Hid _ := hlE
        replace hf : Hid _ := hf
        replace hf0 : Hid _ := hf0
        replace hn1 : Hid _ := hn1
        replace hr : Hid _ := hr
        replace hn : Hid _ := hn
        replace hb3 : Hid _ := hb3
        clear h5 hpre
        gi_wp2
        exact ⟨Keep.refl _, rfl, ⟨pre, x, v, rfl, hl, ho, hnn, z1, z2⟩, hb⟩
      · have hm1 : pre.length - F0 + 1 ≤ maxLen := by simp only [maxLen]; omega
        have hm2 : (pre.length - F0 + 1) * 48 ≤ 140737488355328 := by omega
        have hob := own_block ho
        replace hm1 : Hid _ := hm1
        replace hm2 : Hid _ := hm2
        replace hb3 : Hid _ := hb3
        have z3 : (F0 < (pre ++ [x]).length → ((pre ++ [x]).length : Int) - F0 ≤ n) := fun _ => by rw [List.length_append, List.length_singleton]; omega
        have m1 : wrap64 ((pre.length : Int) + 1) = (pre.length : Int) + 1 := wr_one h5
        have m2 : wrap64 ((pre.length : Int) - (fr)) = (pre.length : Int) - (fr) := wr_sub h5 (by omega) (by omega)
        replace z3 : Hid _ := z3
        replace hob : Hid _ := hob
        replace hlE : Hid _ := hlE
        replace hf : Hid _ := hf
        replace hf0 : Hid _ := hf0
        replace hn1 : Hid _ := hn1
        replace hr : Hid _ := hr
        replace hn : Hid _ := hn
        replace hs1 : Hid _ := hs1
        clear h5 hpre
        gi_wp2_with (gi_at_builtin; refine wpListIn_append_own _ rfl _ _ 37 rfl (w.heap.size + 9) 30 i0 (.agg #[.int .i64 0, .int .i64 0, .int .i64 0, .int .i64 0, .int .i64 0, .int .i64 0]) 6 48 Tryd.underlying37 hi hz0 hz1 hz2 rfl (by decide) _ _ _ rfl (ho.alloc _) ⟨W.heap.size, 0, none⟩ 1 1 (issV x).toList rfl rfl (cells_new _ _ _) (by simp [Value.oneCell']) hm1 hm2 hb3 ?_; intro v' V hown' hgrow _; obtain ⟨g', cap', rfl⟩ := ownsRow_succ hown'; have hgk := grow_keep hgrow (show ∀ g, v.ownBlock = some g → w.heap.size + 9 ≤ g from hob); have hlV := (show ∀ V : World, _ → _ from hlE) V hgk; have coV := (box1 (b := w.heap.size + 1 + 1 + 1) (hlV 2 _ rfl)).1; have foV := (box1 (b := w.heap.size + 1 + 1 + 1) (hlV 2 _ rfl)).2; have ckV := (box1 (b := w.heap.size + 1 + 1 + 1 + 1) (hlV 3 _ rfl)).1; have fkV := (box1 (b := w.heap.size + 1 + 1 + 1 + 1) (hlV 3 _ rfl)).2)
        clear m1 m2
        unfold Hid at z3 hob hlE hf hf0 hn1 hr hn hs1
        have hkV : Keep w.heap.size (KX (w.heap.size + 6) (w.heap.size + 5)) W V := ⟨((Below.refl w.heap.size W).alloc hb.size _).grown hgrow (by simp; have := hb.size; omega) (fun k e => by have := hob k e; omega), fun k hk hlt => hgk k hlt (by unfold KX at hk; omega)⟩
        have hk : Keep w.heap.size (KX (w.heap.size + 6) (w.heap.size + 5)) W ((V.setCell ⟨w.heap.size + 1 + 1 + 1, 0, none⟩ (.slice (some ⟨g', 0, none⟩) (pre.length - F0 + 1) cap')).setCell ⟨w.heap.size + 1 + 1 + 1 + 1, 0, none⟩ (.int .i64 ((pre.length : Int) + 1))) :=
          (hkV.trans (keep_set (by omega) (by unfold KX; omega))).trans (keep_set (by omega) (by unfold KX; omega))
        have hdr : (pre ++ [x]).drop F0 = pre.drop F0 ++ [x] := List.drop_append_of_le_length (by omega)
        have l2 := hlV.set (i := 2) (j := 0) (v := .slice (some ⟨g', 0, none⟩) (pre.length - F0 + 1) cap') (by simp) (box1_set (hlV 2 _ rfl))
        have l3 := l2.set (i := 3) (j := 0) (v := .int .i64 ((pre.length : Int) + 1)) (by simp) (box1_set (l2 3 _ rfl))
        refine ⟨by rw [hs1]; exact hk, ⟨_, by simpa using l3, ?_⟩, z3, hb.trans hk.below⟩
        rw [hdr, flatI_snoc, show (pre ++ [x]).length - F0 = pre.length - F0 + 1 by simp; omega]
        exact own_heap hown' fun g hg _ => (set_other (by simp; omega)).trans (set_other (by simp; omega))
    · have z3 : (F0 < (pre ++ [x]).length → ((pre ++ [x]).length : Int) - F0 ≤ n) := fun h => by rw [List.length_append, List.length_singleton] at h; omega
      have m1 : wrap64 ((pre.length : Int) + 1) = (pre.length : Int) + 1 := wr_one h5
      have m2 : wrap64 ((pre.length : Int) - (fr)) = (pre.length : Int) - (fr) := wr_sub h5 (by omega) (by omega)
      replace z3 : Hid _ := z3
      replace hlE : Hid _ := hlE
      replace hf : Hid _ := hf
      replace hf0 : Hid _ := hf0
      replace hn1 : Hid _ := hn1
      replace hr : Hid _ := hr
      replace hn : Hid _ := hn
      replace hb3 : Hid _ := hb3
      clear h5 hpre
      gi_wp2
      clear m1 m2
      unfold Hid at z3 hf hf0 hn1 hr hn
      have hk : Keep w.heap.size (KX (w.heap.size + 6) (w.heap.size + 5)) W (W.setCell ⟨w.heap.size + 1 + 1 + 1 + 1, 0, none⟩ (.int .i64 ((pre.length : Int) + 1))) := keep_set (by omega) (by unfold KX; omega)
      have hdr : (pre ++ [x]).drop F0 = [] := List.drop_eq_nil_of_le (by simp; omega)
      have hdr0 : pre.drop F0 = [] := List.drop_eq_nil_of_le (by omega)
      rw [hdr0, show pre.length - F0 = 0 by omega] at ho
      refine ⟨hk, ⟨v, ?_, ?_⟩, z3, hb.trans hk.below⟩
      · have := hl.set (i := 3) (j := 0) (v := .int .i64 ((pre.length : Int) + 1)) (by simp) (box1_set (hl 3 _ rfl))
        simpa using this
      · rw [hdr, show (pre ++ [x]).length - F0 = 0 by simp; omega]
        exact own_heap ho fun g hg _ => set_other (by simp; omega)
  case done =>
    rintro W ⟨⟨v, hl, ho⟩, hnn, hb⟩ hD
    have co : W.cell? ⟨w.heap.size + 1 + 1 + 1, 0, none⟩ = some v := (box1 (hl 2 _ rfl)).1
    gi_wp2
    refine ⟨by simp, .inl ⟨_, _, rfl, run_takeDeferred hD, ?_⟩⟩
    refine ⟨_, results_tmp rfl _ _ _, v, rfl, ?_, hb.trans (put_below hb.size (by omega) _)⟩
    rw [list_all (C := n) hnn, List.length_drop]
    exact own_base (own_heap ho fun g hg hl' => World.putObj_heap_other (by omega)) (by omega)
  case stop =>
    rintro c pre W hpre ⟨rfl, ⟨pre', x, v, rfl, hl, ho, e2, e3, e4⟩, hb⟩ hD
    have co : W.cell? ⟨w.heap.size + 1 + 1 + 1, 0, none⟩ = some v := (box1 (hl 2 _ rfl)).1
    gi_wp2
    refine ⟨by simp, .inl ⟨_, _, rfl, run_takeDeferred hD, ?_⟩⟩
    refine ⟨_, results_tmp rfl _ _ _, v, rfl, ?_, hb.trans (put_below hb.size (by omega) _)⟩
    rw [list_cut hpre e2 e3 e4, List.length_drop]
    exact own_base (own_heap ho fun g hg hl' => World.putObj_heap_other (by omega)) (by omega)

end Go.Proofs.YtfaaceakmfokoaaDoor

set_option maxRecDepth 100000
set_option linter.unusedSimpArgs false
set_option linter.unusedVariables false
namespace Go.Proofs.YtfaaceakmfokoaaDoor
open Go Ab Pl
open Go.RowKit Go.Shelf
attribute [local go_sem] Oper.semAt_some
theorem List_nil {p : Pat} {s1 : Value} {a2 : Option Addr} {c2 : Nat} (w : World) (fr n : Int) (hn : n < 1) :
    CallsIn Fence.wide 3 Tryd.prog 17 #[.agg (pvP p s1 (.slice a2 p.dbl.length c2)), .int .i64 fr, .int .i64 n] w fun e W' => e = .returned (.slice none 0 0) ∧ Below w.heap.size w W' := by
  refine callsIn_of_wp Tryd.func17 rfl trivial ?_ rfl
  simp only [Tryd.ntmps17, List.size_toArray, List.length_cons, List.length_nil, Nat.reduceAdd, Nat.reduceSub, Array.replicate_succ, Array.replicate_zero, List.push_toArray, List.append_toArray, List.nil_append, List.cons_append]
  gi_wp2
  go_ret
  exact ⟨rfl, (Below.refl _ w).alloc (Nat.le_refl _) _⟩
theorem flatI_get : ∀ (l : List Iss) (i j : Nat) (x : Iss), l[i]? = some x → j < 6 → (flatI l)[i * 6 + j]? = (issV x).toList[j]?
  | y :: l, 0, j, x, h, hj => by
    cases h
    show ((issV y).toList ++ flatI l)[0 * 6 + j]? = _
    rw [Nat.zero_mul, Nat.zero_add, List.getElem?_append_left (by simpa using hj)]
  | y :: l, i + 1, j, x, h, hj => by
    show ((issV y).toList ++ flatI l)[(i + 1) * 6 + j]? = _
    rw [List.getElem?_append_right (by simp; omega), show (i + 1) * 6 + j - (issV y).toList.length = i * 6 + j by simp; omega]
    exact flatI_get l i j x h hj
theorem rep_cell {w : World} {S : Nat → Nat → Prop} {x : Iss} (h : IssSm x) {j : Nat} {c : D} (hc : (encIss x).cells[j]? = some c) : ∃ v, (issV x).toList[j]? = some v ∧ Rep w S c v := by
  unfold IssSm at h
  match j, hc with
  | 0, hc => simp [encIss, D.cells] at hc; subst hc; exact ⟨_, rfl, .int _ _ (by simp; omega)⟩
  | 1, hc => simp [encIss, D.cells] at hc; subst hc; exact ⟨_, rfl, .int _ _ (by simp; omega)⟩
  | 2, hc => simp [encIss, D.cells] at hc; subst hc; exact ⟨_, rfl, .int _ _ (by simp; omega)⟩
  | 3, hc => simp [encIss, D.cells] at hc; subst hc; exact ⟨_, rfl, .int _ _ (by simp; omega)⟩
  | 4, hc => simp [encIss, D.cells] at hc; subst hc; exact ⟨_, rfl, .int _ _ (by simp; omega)⟩
  | 5, hc => simp [encIss, D.cells] at hc; subst hc; exact ⟨_, rfl, .int _ _ (by simp; omega)⟩
  | j + 6, hc => simp [encIss, D.cells] at hc
theorem rep_isss {w W : World} {S : Nat → Nat → Prop} {l : List Iss} {v : Value} {t : TypeId} (h : W.ownsRow w.heap.size t 6 v l.length (flatI l)) (hs : ∀ x ∈ l, IssSm x) : Rep W (stayed w W S none) (encIsss l) v := by
  obtain ⟨h0, ⟨rfl, h1⟩ | ⟨g, cap, cur, rfl, e2, e3, e4, e5, e6, e7⟩⟩ := h
  · rw [List.length_eq_zero_iff.1 h1]; exact .nil _ none 0 (by simp [maxLen])
  · rw [encIsss_eq]
    have hg := (Array.getElem?_eq_some_iff.1 e3).1
    have hlen : l.length = (l.map encIss).length := by simp
    have at_i : ∀ (i : Nat) (e : D), (l.map encIss)[i]? = some e → ∃ x, l[i]? = some x ∧ encIss x = e := fun i e h => by simpa [List.getElem?_map] using h
    have val : ∀ (i j : Nat) (e c : D), (l.map encIss)[i]? = some e → e.cells[j]? = some c → ∃ v, (flatI l)[i * 6 + j]? = some v ∧ Rep W (stayed w W S none) c v := fun i j e c h1 h2 => by
      obtain ⟨x, hx, rfl⟩ := at_i i e h1
      have hj : j < 6 := (List.getElem?_eq_some_iff.1 h2).1
      obtain ⟨v, hv, hr⟩ := rep_cell (w := W) (S := stayed w W S none) (hs x (List.mem_of_getElem? hx)) h2
      exact ⟨v, by rw [flatI_get l i j x hx hj]; exact hv, hr⟩
    rw [hlen]
    refine .slice (encIss zIss) 6 rfl (l.map encIss) g 0 cap (fun i j => ((flatI l)[i * 6 + j]?).getD undef) (by rw [← hlen]; exact e4) e5 (fun e he => ?_) (fun i e j c h1 h2 => ?_) (fun i e j c h1 h2 => ?_)
    · obtain ⟨x, hx, rfl⟩ := List.mem_map.1 he
      exact ⟨rfl, by simp [encIss, D.cells, D.flat]⟩
    · obtain ⟨v, hv, hr⟩ := val i j e c h1 h2
      refine ⟨.inr ⟨e2, hg, by simp⟩, ?_⟩
      have hc : cur[i * 6 + j]? = some v := by
        rw [← e7, List.getElem?_take] at hv
        split at hv
        · rw [← Array.getElem?_toList]; exact hv
        · cases hv
      rw [Nat.zero_add, hv]
      exact cell_of e3 hc
    · obtain ⟨v, hv, hr⟩ := val i j e c h1 h2
      rw [hv]; exact hr
theorem pattern_List (p : Pat) (fr n : Int) (hp : PatOk p) : ACalls E.P 17 [encPat p, .int .i64 fr, .int .i64 n] (.d (encIsss (listR p fr n))) := by
  refine ⟨⟨_, Tryd.func17, by kernel_rfl, rfl⟩, fun w S vs hG hS hs hr => ?_⟩
  obtain ⟨l⟩ := vs
  match l, hs with
  | [v0, v1, v2], _ =>
    have r0 := hr 0 _ rfl; have r1 := hr 1 _ rfl; have r2 := hr 2 _ rfl
    simp at r0 r1 r2
    obtain ⟨s1, a2, c2, rfl⟩ := pat_open r0
    cases r1 with
    | int _ _ h1 =>
      cases r2 with
      | int _ _ h2 =>
        have hpw : PW p s1 (.slice a2 p.dbl.length c2) S w := ⟨hp, hG, hS, r0⟩
        simp at h1 h2
        by_cases hn : n < 1
        · refine (callsIn_wide.1 (List_nil w fr n hn)).mono ?_
          rintro e w' ⟨rfl, hb⟩
          refine ⟨_, rfl, hb, ?_⟩
          show Rep w' _ (encIsss (listR p fr n)) _
          unfold listR; rw [if_pos hn]; exact .nil _ none 0 (by simp [maxLen])
        · by_cases hf : fr < 0
          · refine (callsIn_wide.1 (List_neg hpw fr n 0 (by omega) ⟨h2.2, h1.1, h1.2⟩ hf rfl)).mono ?_
            rintro e w' ⟨v, rfl, ho, hb⟩
            refine ⟨_, rfl, hb, ?_⟩
            show Rep w' _ (encIsss (listR p fr n)) _
            unfold listR; rw [if_neg hn, if_pos hf]
            rw [List.drop_zero] at ho
            exact rep_isss ho fun x hx => (allI_rng hp (List.mem_of_mem_take hx)).sm
          · refine (callsIn_wide.1 (List_pos hpw fr n fr.toNat (by omega) ⟨h2.2, h1.1, h1.2⟩ hf (by omega))).mono ?_
            rintro e w' ⟨v, rfl, ho, hb⟩
            refine ⟨_, rfl, hb, ?_⟩
            show Rep w' _ (encIsss (listR p fr n)) _
            unfold listR; rw [if_neg hn, if_neg hf]
            exact rep_isss ho fun x hx => (allI_rng hp (List.mem_of_mem_drop (List.mem_of_mem_take hx))).sm

end Go.Proofs.YtfaaceakmfokoaaDoor

set_option maxRecDepth 100000
set_option linter.unusedSimpArgs false
set_option linter.unusedVariables false
namespace Go.Proofs.YtfaaceakmfokoaaDoor
open Go Ab Pl
theorem ref36_Until (p : Pat) (day : Int) (hp : PatOk p) : ACalls E.P 20 [encPat p, .int .i64 day] (.d (.int .i64 (untilR p day))) := by
  refine ACalls.intro E_ok Tryd.func20 rfl rfl Tryd.ntmps20 Tryd.results20 (Nat.le_of_ble_eq_true rfl) fun hok base S0 w0 => ?_
  have hm : (if 109572 < day then 109572 else day) = min day 109572 := by split <;> omega
  have hu := iss_until hp day
  -- region 0
  refine AWp.rseq E_ok [0, 1, 2, 4] fun K hK => ?_
  simp [encPat_eq, encInts_eq, encIsss_eq, hm]
  repeat refine ⟨by first | omega | assumption | (simp only [maxLen]; omega) | (intros; omega) | decide, ?_⟩
  refine hK _ ?_
  clear hK K
  -- region 1
  refine AWp.rseq E_ok [0, 1, 2, 4] fun K hK => ?_
  simp [encPat_eq, encInts_eq, encIsss_eq, hm]
  repeat refine ⟨by first | omega | assumption | (simp only [maxLen]; omega) | (intros; omega) | decide, ?_⟩
  refine meet.of (ref36_Issues p 5000 (min day 109572) hp) ?_
  simp [encPat_eq, encInts_eq, encIsss_eq, hm]
  repeat refine ⟨by first | omega | assumption | (simp only [maxLen]; omega) | (intros; omega) | decide, ?_⟩
  refine hK _ ?_
  clear hK K
  refine AWp.ret ?_
  repeat first | refine thenN ?_ | refine thenX ?_ | refine thenR ?_ | refine blockN ?_ | refine blockR ?_ | refine blockX ?_ | refine blockM rfl ?_
  simp [RetOk, RV, hu]
end Go.Proofs.YtfaaceakmfokoaaDoor

set_option maxRecDepth 100000
set_option linter.unusedSimpArgs false
set_option linter.unusedVariables false
namespace Go.Proofs.YtfaaceakmfokoaaDoor
open Go Ab Pl
set_option maxHeartbeats 16000000 in
theorem law36_PatternLists (p : Pat) (fr n day : Int) : ACalls E.P 5 [encPat p, .int .i64 fr, .int .i64 n, .int .i64 day] (.d (.bool true)) := by
  refine ACalls.intro E_ok Tryd.func5 rfl rfl Tryd.ntmps5 Tryd.results5 (Nat.le_of_ble_eq_true rfl) fun hok base S0 w0 => ?_
  -- region 0
  refine AWp.rseq E_ok [0, 1, 2, 3, 4, 8, 10, 18, 36] fun K hK => ?_
  simp [encPat_eq, encInts_eq, encIss_eq, encIsss_eq, patR_1, patR_2]
  repeat refine ⟨by first | omega | assumption | (simp only [maxLen]; omega) | (intros; omega) | decide, ?_⟩
  refine hK _ ?_
  clear hK K
  refine AWp.seq ?_
  -- region 1
  refine AWp.rseq E_ok [0, 1, 2, 3, 4, 8, 10, 18, 36] fun K hK => ?_
  simp [encPat_eq, encInts_eq, encIss_eq, encIsss_eq, patR_1, patR_2]
  repeat refine ⟨by first | omega | assumption | (simp only [maxLen]; omega) | (intros; omega) | decide, ?_⟩
  refine meet.of (law36_alive) ?_
  simp [encPat_eq, encInts_eq, encIss_eq, encIsss_eq, patR_1, patR_2]
  repeat refine ⟨by first | omega | assumption | (simp only [maxLen]; omega) | (intros; omega) | decide, ?_⟩
  refine hK _ ?_
  clear hK K
  refine AWp.cond rfl (fun h10 => ?_) (fun h10 => ?_)
  · exact absurd h10 (by simp)
  · try simp at h10
    refine AWp.skip ?_
    repeat first | refine thenN ?_ | refine thenX ?_ | refine thenR ?_ | refine blockN ?_ | refine blockR ?_ | refine blockX ?_ | refine blockM rfl ?_
    refine AWp.seq ?_
    -- region 3
    refine AWp.rseq E_ok [0, 1, 2, 3, 4, 8, 10, 18, 36] fun K hK => ?_
    simp [encPat_eq, encInts_eq, encIss_eq, encIsss_eq, patR_1, patR_2, h10]
    repeat refine ⟨by first | omega | assumption | (simp only [maxLen]; omega) | (intros; omega) | decide, ?_⟩
    refine meet.of (law36_short p) ?_
    simp [encPat_eq, encInts_eq, encIss_eq, encIsss_eq, patR_1, patR_2, h10]
    repeat refine ⟨by first | omega | assumption | (simp only [maxLen]; omega) | (intros; omega) | decide, ?_⟩
    refine meet.of (ref36_Right p) ?_
    simp [encPat_eq, encInts_eq, encIss_eq, encIsss_eq, patR_1, patR_2, h10]
    repeat refine ⟨by first | omega | assumption | (simp only [maxLen]; omega) | (intros; omega) | decide, ?_⟩
    refine hK _ ?_
    clear hK K
    refine AWp.cond rfl (fun h18 => ?_) (fun h18 => ?_)
    · try simp at h18
      -- region 4
      refine AWp.rseq E_ok [0, 1, 2, 3, 4, 8, 10, 18, 36] fun K hK => ?_
      simp [encPat_eq, encInts_eq, encIss_eq, encIsss_eq, patR_1, patR_2, h10]
      repeat refine ⟨by first | omega | assumption | (simp only [maxLen]; omega) | (intros; omega) | decide, ?_⟩
      refine hK _ ?_
      clear hK K
      refine AWp.ret ?_
      repeat first | refine thenN ?_ | refine thenX ?_ | refine thenR ?_ | refine blockN ?_ | refine blockR ?_ | refine blockX ?_ | refine blockM rfl ?_
      simp [RetOk, RV]
    · try simp at h18
      have hok2 : PatOk p := patR_ok (by simpa using h18.2)
      have hll := list_len p fr n
      have hur := until_rng p day
      refine AWp.skip ?_
      repeat first | refine thenN ?_ | refine thenX ?_ | refine thenR ?_ | refine blockN ?_ | refine blockR ?_ | refine blockX ?_ | refine blockM rfl ?_
      refine AWp.seq ?_
      -- region 5, every order
      refine AWp.rseqS E_ok mixed [0, 1, 2, 3, 4, 8, 10, 18, 36] (n := 18) (l := #[false, false, false, false, false, false, false, false, false, false, false, false, false, false, false, false, false, false]) rfl (by kernel_rfl) fun K hK => ?_
      suffices hnext : K [(0, T.val (D.agg [D.int IntKind.i64 p.start, D.int IntKind.i64 p.every, D.int IntKind.i64 p.per, D.int IntKind.i64 p.first, (D.int IntKind.i64 (0 : Int)).slice (List.map (D.int IntKind.i64) p.skip), (D.int IntKind.i64 (0 : Int)).slice (List.map (D.int IntKind.i64) p.dbl)])), (1, T.val (D.int IntKind.i64 fr)), (2, T.val (D.int IntKind.i64 n)), (3, T.val (D.int IntKind.i64 day)), (4, T.box [C.d (D.int IntKind.i64 p.start), C.d (D.int IntKind.i64 p.every), C.d (D.int IntKind.i64 p.per), C.d (D.int IntKind.i64 p.first), C.d ((D.int IntKind.i64 (0 : Int)).slice (List.map (D.int IntKind.i64) p.skip)), C.d ((D.int IntKind.i64 (0 : Int)).slice (List.map (D.int IntKind.i64) p.dbl))]), (8, T.val (D.bool false)), (10, T.val (D.bool false)), (18, T.val (D.bool (!shortP p || patR p != (0 : Int)))), (36, T.val (D.bool false))] by
        refine contS.cut 0 #[true, true, true, true, true, true, true, true, true, true, true, true, true, true, true, true, true, true] [(0, T.val (D.agg [D.int IntKind.i64 p.start, D.int IntKind.i64 p.every, D.int IntKind.i64 p.per, D.int IntKind.i64 p.first, (D.int IntKind.i64 (0 : Int)).slice (List.map (D.int IntKind.i64) p.skip), (D.int IntKind.i64 (0 : Int)).slice (List.map (D.int IntKind.i64) p.dbl)])), (1, T.val (D.int IntKind.i64 fr)), (2, T.val (D.int IntKind.i64 n)), (3, T.val (D.int IntKind.i64 day)), (4, T.box [C.d (D.int IntKind.i64 p.start), C.d (D.int IntKind.i64 p.every), C.d (D.int IntKind.i64 p.per), C.d (D.int IntKind.i64 p.first), C.d ((D.int IntKind.i64 (0 : Int)).slice (List.map (D.int IntKind.i64) p.skip)), C.d ((D.int IntKind.i64 (0 : Int)).slice (List.map (D.int IntKind.i64) p.dbl))]), (8, T.val (D.bool false)), (10, T.val (D.bool false)), (18, T.val (D.bool (!shortP p || patR p != (0 : Int)))), (36, T.val (D.bool false))] ?_ fun h_7_10_11_14_15_ => ?_
        · skip
          refine coreS.nil (by kernel_rfl) ?_
          simpa [encPat_eq, encInts_eq, encIss_eq, encIsss_eq, patR_1, patR_2] using hnext
        refine contS.cut 3 #[true, true, true, true, true, true, true, true, true, true, true, true, true, true, true, false, false, false] [(0, T.val (D.agg [D.int IntKind.i64 p.start, D.int IntKind.i64 p.every, D.int IntKind.i64 p.per, D.int IntKind.i64 p.first, (D.int IntKind.i64 (0 : Int)).slice (List.map (D.int IntKind.i64) p.skip), (D.int IntKind.i64 (0 : Int)).slice (List.map (D.int IntKind.i64) p.dbl)])), (1, T.val (D.int IntKind.i64 fr)), (2, T.val (D.int IntKind.i64 n)), (3, T.val (D.int IntKind.i64 day)), (4, T.box [C.d (D.int IntKind.i64 p.start), C.d (D.int IntKind.i64 p.every), C.d (D.int IntKind.i64 p.per), C.d (D.int IntKind.i64 p.first), C.d ((D.int IntKind.i64 (0 : Int)).slice (List.map (D.int IntKind.i64) p.skip)), C.d ((D.int IntKind.i64 (0 : Int)).slice (List.map (D.int IntKind.i64) p.dbl))]), (8, T.val (D.bool false)), (10, T.val (D.bool false)), (18, T.val (D.bool (!shortP p || patR p != (0 : Int)))), (25, T.val (D.bool (decide (fr < (400 : Int)) && decide (n < (400 : Int))))), (29, T.opt [decide (fr < (400 : Int)) && decide (n < (400 : Int))] (T.val ((D.agg [D.int IntKind.i64 zIss.vol, D.int IntKind.i64 zIss.num, D.int IntKind.i64 zIss.last, D.int IntKind.i64 zIss.day, D.int IntKind.i64 zIss.st, D.int IntKind.i64 zIss.item]).slice (List.map encIss (listR p fr n))))), (33, T.opt [decide (fr < (400 : Int)) && decide (n < (400 : Int))] (T.val ((D.agg [D.int IntKind.i64 zIss.vol, D.int IntKind.i64 zIss.num, D.int IntKind.i64 zIss.last, D.int IntKind.i64 zIss.day, D.int IntKind.i64 zIss.st, D.int IntKind.i64 zIss.item]).slice (List.map encIss (listR p fr n)))))] ?_ fun h_7_10_11_14 => ?_
        · skip
          refine coreS.step E_ok [15] (by kernel_rfl) (by simp) ?_
          refine anyS.cons rfl ?_ ?_
          · skip
            simp [encPat_eq, encInts_eq, encIss_eq, encIsss_eq, patR_1, patR_2, h10]
            repeat refine ⟨by first | omega | assumption | (simp only [maxLen]; omega) | (intros; omega) | decide, ?_⟩
            refine meet.of (ref36_Same (listR p fr n) (listR p fr n) (by omega)) ?_
            simp [encPat_eq, encInts_eq, encIss_eq, encIsss_eq, patR_1, patR_2, h10]
            repeat refine ⟨by first | omega | assumption | (simp only [maxLen]; omega) | (intros; omega) | decide, ?_⟩
            refine contS.now (f' := 2) (l' := #[true, true, true, true, true, true, true, true, true, true, true, true, true, true, true, true, false, false]) ?_ rfl (by kernel_rfl)
            refine coreS.dry E_ok (by kernel_rfl) 16 rfl rfl (by kernel_rfl) (by kernel_rfl) ?_
            simp [encPat_eq, encInts_eq, encIss_eq, encIsss_eq, patR_1, patR_2, h10]
            repeat refine ⟨by first | omega | assumption | (simp only [maxLen]; omega) | (intros; omega) | decide, ?_⟩
            refine contS.now (f' := 1) (l' := #[true, true, true, true, true, true, true, true, true, true, true, true, true, true, true, true, true, false]) ?_ rfl (by kernel_rfl)
            refine coreS.dry E_ok (by kernel_rfl) 17 rfl rfl (by kernel_rfl) (by kernel_rfl) ?_
            simp [encPat_eq, encInts_eq, encIss_eq, encIsss_eq, patR_1, patR_2, h10]
            repeat refine ⟨by first | omega | assumption | (simp only [maxLen]; omega) | (intros; omega) | decide, ?_⟩
            exact contS.mk (by simp [Weak, TW, T.plain, encPat_eq, encInts_eq, encIss_eq, encIsss_eq, patR_1, patR_2]) h_7_10_11_14_15_ (by kernel_rfl)
          exact anyS.nil
        refine contS.cut 4 #[true, true, true, true, true, true, true, true, true, true, true, true, true, true, false, false, false, false] [(0, T.val (D.agg [D.int IntKind.i64 p.start, D.int IntKind.i64 p.every, D.int IntKind.i64 p.per, D.int IntKind.i64 p.first, (D.int IntKind.i64 (0 : Int)).slice (List.map (D.int IntKind.i64) p.skip), (D.int IntKind.i64 (0 : Int)).slice (List.map (D.int IntKind.i64) p.dbl)])), (1, T.val (D.int IntKind.i64 fr)), (2, T.val (D.int IntKind.i64 n)), (3, T.val (D.int IntKind.i64 day)), (4, T.box [C.d (D.int IntKind.i64 p.start), C.d (D.int IntKind.i64 p.every), C.d (D.int IntKind.i64 p.per), C.d (D.int IntKind.i64 p.first), C.d ((D.int IntKind.i64 (0 : Int)).slice (List.map (D.int IntKind.i64) p.skip)), C.d ((D.int IntKind.i64 (0 : Int)).slice (List.map (D.int IntKind.i64) p.dbl))]), (8, T.val (D.bool false)), (10, T.val (D.bool false)), (18, T.val (D.bool (!shortP p || patR p != (0 : Int)))), (25, T.val (D.bool (decide (fr < (400 : Int)) && decide (n < (400 : Int))))), (29, T.opt [decide (fr < (400 : Int)) && decide (n < (400 : Int))] (T.val ((D.agg [D.int IntKind.i64 zIss.vol, D.int IntKind.i64 zIss.num, D.int IntKind.i64 zIss.last, D.int IntKind.i64 zIss.day, D.int IntKind.i64 zIss.st, D.int IntKind.i64 zIss.item]).slice (List.map encIss (listR p fr n))))), (30, T.opt [decide (fr < (400 : Int)) && decide (n < (400 : Int))] (T.val (D.agg [D.int IntKind.i64 p.start, D.int IntKind.i64 p.every, D.int IntKind.i64 p.per, D.int IntKind.i64 p.first, (D.int IntKind.i64 (0 : Int)).slice (List.map (D.int IntKind.i64) p.skip), (D.int IntKind.i64 (0 : Int)).slice (List.map (D.int IntKind.i64) p.dbl)]))), (31, T.opt [decide (fr < (400 : Int)) && decide (n < (400 : Int))] (T.val (D.int IntKind.i64 fr))), (32, T.opt [decide (fr < (400 : Int)) && decide (n < (400 : Int))] (T.val (D.int IntKind.i64 n)))] ?_ fun h_7_10_11 => ?_
        · skip
          refine coreS.step E_ok [14] (by kernel_rfl) (by simp) ?_
          refine anyS.cons rfl ?_ ?_
          · skip
            simp [encPat_eq, encInts_eq, encIss_eq, encIsss_eq, patR_1, patR_2, h10]
            repeat refine ⟨by first | omega | assumption | (simp only [maxLen]; omega) | (intros; omega) | decide, ?_⟩
            refine meet.of (ref36_List p fr n hok2) ?_
            simp [encPat_eq, encInts_eq, encIss_eq, encIsss_eq, patR_1, patR_2, h10]
            repeat refine ⟨by first | omega | assumption | (simp only [maxLen]; omega) | (intros; omega) | decide, ?_⟩
            exact contS.mk (by simp [Weak, TW, T.plain, encPat_eq, encInts_eq, encIss_eq, encIsss_eq, patR_1, patR_2]) h_7_10_11_14 (by kernel_rfl)
          exact anyS.nil
        refine contS.cut 5 #[true, true, true, true, true, true, true, true, true, true, true, false, true, true, false, false, false, false] [(0, T.val (D.agg [D.int IntKind.i64 p.start, D.int IntKind.i64 p.every, D.int IntKind.i64 p.per, D.int IntKind.i64 p.first, (D.int IntKind.i64 (0 : Int)).slice (List.map (D.int IntKind.i64) p.skip), (D.int IntKind.i64 (0 : Int)).slice (List.map (D.int IntKind.i64) p.dbl)])), (1, T.val (D.int IntKind.i64 fr)), (2, T.val (D.int IntKind.i64 n)), (3, T.val (D.int IntKind.i64 day)), (4, T.box [C.d (D.int IntKind.i64 p.start), C.d (D.int IntKind.i64 p.every), C.d (D.int IntKind.i64 p.per), C.d (D.int IntKind.i64 p.first), C.d ((D.int IntKind.i64 (0 : Int)).slice (List.map (D.int IntKind.i64) p.skip)), C.d ((D.int IntKind.i64 (0 : Int)).slice (List.map (D.int IntKind.i64) p.dbl))]), (8, T.val (D.bool false)), (10, T.val (D.bool false)), (18, T.val (D.bool (!shortP p || patR p != (0 : Int)))), (25, T.val (D.bool (decide (fr < (400 : Int)) && decide (n < (400 : Int))))), (29, T.opt [decide (fr < (400 : Int)) && decide (n < (400 : Int))] (T.val ((D.agg [D.int IntKind.i64 zIss.vol, D.int IntKind.i64 zIss.num, D.int IntKind.i64 zIss.last, D.int IntKind.i64 zIss.day, D.int IntKind.i64 zIss.st, D.int IntKind.i64 zIss.item]).slice (List.map encIss (listR p fr n))))), (31, T.opt [decide (fr < (400 : Int)) && decide (n < (400 : Int))] (T.val (D.int IntKind.i64 fr))), (32, T.opt [decide (fr < (400 : Int)) && decide (n < (400 : Int))] (T.val (D.int IntKind.i64 n)))] ?_ fun h_7_10 => ?_
        · skip
          refine coreS.step E_ok [11] (by kernel_rfl) (by simp) ?_
          refine anyS.cons rfl ?_ ?_
          · skip
            simp [encPat_eq, encInts_eq, encIss_eq, encIsss_eq, patR_1, patR_2, h10]
            repeat refine ⟨by first | omega | assumption | (simp only [maxLen]; omega) | (intros; omega) | decide, ?_⟩
            exact contS.mk (by simp [Weak, TW, T.plain, encPat_eq, encInts_eq, encIss_eq, encIsss_eq, patR_1, patR_2]) h_7_10_11 (by kernel_rfl)
          exact anyS.nil
        refine contS.cut 5 #[true, true, true, true, true, true, true, true, true, true, false, true, true, true, false, false, false, false] [(0, T.val (D.agg [D.int IntKind.i64 p.start, D.int IntKind.i64 p.every, D.int IntKind.i64 p.per, D.int IntKind.i64 p.first, (D.int IntKind.i64 (0 : Int)).slice (List.map (D.int IntKind.i64) p.skip), (D.int IntKind.i64 (0 : Int)).slice (List.map (D.int IntKind.i64) p.dbl)])), (1, T.val (D.int IntKind.i64 fr)), (2, T.val (D.int IntKind.i64 n)), (3, T.val (D.int IntKind.i64 day)), (4, T.box [C.d (D.int IntKind.i64 p.start), C.d (D.int IntKind.i64 p.every), C.d (D.int IntKind.i64 p.per), C.d (D.int IntKind.i64 p.first), C.d ((D.int IntKind.i64 (0 : Int)).slice (List.map (D.int IntKind.i64) p.skip)), C.d ((D.int IntKind.i64 (0 : Int)).slice (List.map (D.int IntKind.i64) p.dbl))]), (8, T.val (D.bool false)), (10, T.val (D.bool false)), (18, T.val (D.bool (!shortP p || patR p != (0 : Int)))), (25, T.val (D.bool (decide (fr < (400 : Int)) && decide (n < (400 : Int))))), (26, T.opt [decide (fr < (400 : Int)) && decide (n < (400 : Int))] (T.val (D.agg [D.int IntKind.i64 p.start, D.int IntKind.i64 p.every, D.int IntKind.i64 p.per, D.int IntKind.i64 p.first, (D.int IntKind.i64 (0 : Int)).slice (List.map (D.int IntKind.i64) p.skip), (D.int IntKind.i64 (0 : Int)).slice (List.map (D.int IntKind.i64) p.dbl)]))), (27, T.opt [decide (fr < (400 : Int)) && decide (n < (400 : Int))] (T.val (D.int IntKind.i64 fr))), (28, T.opt [decide (fr < (400 : Int)) && decide (n < (400 : Int))] (T.val (D.int IntKind.i64 n))), (30, T.opt [decide (fr < (400 : Int)) && decide (n < (400 : Int))] (T.val (D.agg [D.int IntKind.i64 p.start, D.int IntKind.i64 p.every, D.int IntKind.i64 p.per, D.int IntKind.i64 p.first, (D.int IntKind.i64 (0 : Int)).slice (List.map (D.int IntKind.i64) p.skip), (D.int IntKind.i64 (0 : Int)).slice (List.map (D.int IntKind.i64) p.dbl)]))), (31, T.opt [decide (fr < (400 : Int)) && decide (n < (400 : Int))] (T.val (D.int IntKind.i64 fr))), (32, T.opt [decide (fr < (400 : Int)) && decide (n < (400 : Int))] (T.val (D.int IntKind.i64 n)))] ?_ fun h_7_11 => ?_
        · skip
          refine coreS.step E_ok [10] (by kernel_rfl) (by simp) ?_
          refine anyS.cons rfl ?_ ?_
          · skip
            simp [encPat_eq, encInts_eq, encIss_eq, encIsss_eq, patR_1, patR_2, h10]
            repeat refine ⟨by first | omega | assumption | (simp only [maxLen]; omega) | (intros; omega) | decide, ?_⟩
            refine meet.of (pattern_List p fr n hok2) ?_
            simp [encPat_eq, encInts_eq, encIss_eq, encIsss_eq, patR_1, patR_2, h10]
            repeat refine ⟨by first | omega | assumption | (simp only [maxLen]; omega) | (intros; omega) | decide, ?_⟩
            exact contS.mk (by simp [Weak, TW, T.plain, encPat_eq, encInts_eq, encIss_eq, encIsss_eq, patR_1, patR_2]) h_7_10_11 (by kernel_rfl)
          exact anyS.nil
        refine contS.cut 6 #[true, true, true, true, true, true, true, true, true, true, false, false, true, true, false, false, false, false] [(0, T.val (D.agg [D.int IntKind.i64 p.start, D.int IntKind.i64 p.every, D.int IntKind.i64 p.per, D.int IntKind.i64 p.first, (D.int IntKind.i64 (0 : Int)).slice (List.map (D.int IntKind.i64) p.skip), (D.int IntKind.i64 (0 : Int)).slice (List.map (D.int IntKind.i64) p.dbl)])), (1, T.val (D.int IntKind.i64 fr)), (2, T.val (D.int IntKind.i64 n)), (3, T.val (D.int IntKind.i64 day)), (4, T.box [C.d (D.int IntKind.i64 p.start), C.d (D.int IntKind.i64 p.every), C.d (D.int IntKind.i64 p.per), C.d (D.int IntKind.i64 p.first), C.d ((D.int IntKind.i64 (0 : Int)).slice (List.map (D.int IntKind.i64) p.skip)), C.d ((D.int IntKind.i64 (0 : Int)).slice (List.map (D.int IntKind.i64) p.dbl))]), (8, T.val (D.bool false)), (10, T.val (D.bool false)), (18, T.val (D.bool (!shortP p || patR p != (0 : Int)))), (25, T.val (D.bool (decide (fr < (400 : Int)) && decide (n < (400 : Int))))), (26, T.opt [decide (fr < (400 : Int)) && decide (n < (400 : Int))] (T.val (D.agg [D.int IntKind.i64 p.start, D.int IntKind.i64 p.every, D.int IntKind.i64 p.per, D.int IntKind.i64 p.first, (D.int IntKind.i64 (0 : Int)).slice (List.map (D.int IntKind.i64) p.skip), (D.int IntKind.i64 (0 : Int)).slice (List.map (D.int IntKind.i64) p.dbl)]))), (27, T.opt [decide (fr < (400 : Int)) && decide (n < (400 : Int))] (T.val (D.int IntKind.i64 fr))), (28, T.opt [decide (fr < (400 : Int)) && decide (n < (400 : Int))] (T.val (D.int IntKind.i64 n))), (31, T.opt [decide (fr < (400 : Int)) && decide (n < (400 : Int))] (T.val (D.int IntKind.i64 fr))), (32, T.opt [decide (fr < (400 : Int)) && decide (n < (400 : Int))] (T.val (D.int IntKind.i64 n)))] ?_ fun h_7 => ?_
        · skip
          refine coreS.step E_ok [10, 11] (by kernel_rfl) (by simp) ?_
          refine anyS.cons rfl ?_ ?_
          · skip
            simp [encPat_eq, encInts_eq, encIss_eq, encIsss_eq, patR_1, patR_2, h10]
            repeat refine ⟨by first | omega | assumption | (simp only [maxLen]; omega) | (intros; omega) | decide, ?_⟩
            refine meet.of (pattern_List p fr n hok2) ?_
            simp [encPat_eq, encInts_eq, encIss_eq, encIsss_eq, patR_1, patR_2, h10]
            repeat refine ⟨by first | omega | assumption | (simp only [maxLen]; omega) | (intros; omega) | decide, ?_⟩
            exact contS.mk (by simp [Weak, TW, T.plain, encPat_eq, encInts_eq, encIss_eq, encIsss_eq, patR_1, patR_2]) h_7_10 (by kernel_rfl)
          refine anyS.cons rfl ?_ ?_
          · skip
            simp [encPat_eq, encInts_eq, encIss_eq, encIsss_eq, patR_1, patR_2, h10]
            repeat refine ⟨by first | omega | assumption | (simp only [maxLen]; omega) | (intros; omega) | decide, ?_⟩
            exact contS.mk (by simp [Weak, TW, T.plain, encPat_eq, encInts_eq, encIss_eq, encIsss_eq, patR_1, patR_2]) h_7_11 (by kernel_rfl)
          exact anyS.nil
        refine contS.cut 6 #[true, true, true, true, true, true, true, false, true, true, false, true, true, true, false, false, false, false] [(0, T.val (D.agg [D.int IntKind.i64 p.start, D.int IntKind.i64 p.every, D.int IntKind.i64 p.per, D.int IntKind.i64 p.first, (D.int IntKind.i64 (0 : Int)).slice (List.map (D.int IntKind.i64) p.skip), (D.int IntKind.i64 (0 : Int)).slice (List.map (D.int IntKind.i64) p.dbl)])), (1, T.val (D.int IntKind.i64 fr)), (2, T.val (D.int IntKind.i64 n)), (3, T.val (D.int IntKind.i64 day)), (4, T.box [C.d (D.int IntKind.i64 p.start), C.d (D.int IntKind.i64 p.every), C.d (D.int IntKind.i64 p.per), C.d (D.int IntKind.i64 p.first), C.d ((D.int IntKind.i64 (0 : Int)).slice (List.map (D.int IntKind.i64) p.skip)), C.d ((D.int IntKind.i64 (0 : Int)).slice (List.map (D.int IntKind.i64) p.dbl))]), (8, T.val (D.bool false)), (10, T.val (D.bool false)), (18, T.val (D.bool (!shortP p || patR p != (0 : Int)))), (25, T.val (D.bool (decide (fr < (400 : Int)) && decide (n < (400 : Int))))), (27, T.opt [decide (fr < (400 : Int)) && decide (n < (400 : Int))] (T.val (D.int IntKind.i64 fr))), (28, T.opt [decide (fr < (400 : Int)) && decide (n < (400 : Int))] (T.val (D.int IntKind.i64 n))), (30, T.opt [decide (fr < (400 : Int)) && decide (n < (400 : Int))] (T.val (D.agg [D.int IntKind.i64 p.start, D.int IntKind.i64 p.every, D.int IntKind.i64 p.per, D.int IntKind.i64 p.first, (D.int IntKind.i64 (0 : Int)).slice (List.map (D.int IntKind.i64) p.skip), (D.int IntKind.i64 (0 : Int)).slice (List.map (D.int IntKind.i64) p.dbl)]))), (31, T.opt [decide (fr < (400 : Int)) && decide (n < (400 : Int))] (T.val (D.int IntKind.i64 fr))), (32, T.opt [decide (fr < (400 : Int)) && decide (n < (400 : Int))] (T.val (D.int IntKind.i64 n)))] ?_ fun h_11 => ?_
        · skip
          refine coreS.step E_ok [7] (by kernel_rfl) (by simp) ?_
          refine anyS.cons rfl ?_ ?_
          · skip
            simp [encPat_eq, encInts_eq, encIss_eq, encIsss_eq, patR_1, patR_2, h10]
            repeat refine ⟨by first | omega | assumption | (simp only [maxLen]; omega) | (intros; omega) | decide, ?_⟩
            exact contS.mk (by simp [Weak, TW, T.plain, encPat_eq, encInts_eq, encIss_eq, encIsss_eq, patR_1, patR_2]) h_7_11 (by kernel_rfl)
          exact anyS.nil
        refine contS.cut 7 #[true, true, true, true, true, true, true, false, true, true, false, false, true, true, false, false, false, false] [(0, T.val (D.agg [D.int IntKind.i64 p.start, D.int IntKind.i64 p.every, D.int IntKind.i64 p.per, D.int IntKind.i64 p.first, (D.int IntKind.i64 (0 : Int)).slice (List.map (D.int IntKind.i64) p.skip), (D.int IntKind.i64 (0 : Int)).slice (List.map (D.int IntKind.i64) p.dbl)])), (1, T.val (D.int IntKind.i64 fr)), (2, T.val (D.int IntKind.i64 n)), (3, T.val (D.int IntKind.i64 day)), (4, T.box [C.d (D.int IntKind.i64 p.start), C.d (D.int IntKind.i64 p.every), C.d (D.int IntKind.i64 p.per), C.d (D.int IntKind.i64 p.first), C.d ((D.int IntKind.i64 (0 : Int)).slice (List.map (D.int IntKind.i64) p.skip)), C.d ((D.int IntKind.i64 (0 : Int)).slice (List.map (D.int IntKind.i64) p.dbl))]), (8, T.val (D.bool false)), (10, T.val (D.bool false)), (18, T.val (D.bool (!shortP p || patR p != (0 : Int)))), (25, T.val (D.bool (decide (fr < (400 : Int)) && decide (n < (400 : Int))))), (27, T.opt [decide (fr < (400 : Int)) && decide (n < (400 : Int))] (T.val (D.int IntKind.i64 fr))), (28, T.opt [decide (fr < (400 : Int)) && decide (n < (400 : Int))] (T.val (D.int IntKind.i64 n))), (31, T.opt [decide (fr < (400 : Int)) && decide (n < (400 : Int))] (T.val (D.int IntKind.i64 fr))), (32, T.opt [decide (fr < (400 : Int)) && decide (n < (400 : Int))] (T.val (D.int IntKind.i64 n)))] ?_ fun h_ => ?_
        · skip
          refine coreS.step E_ok [7, 11] (by kernel_rfl) (by simp) ?_
          refine anyS.cons rfl ?_ ?_
          · skip
            simp [encPat_eq, encInts_eq, encIss_eq, encIsss_eq, patR_1, patR_2, h10]
            repeat refine ⟨by first | omega | assumption | (simp only [maxLen]; omega) | (intros; omega) | decide, ?_⟩
            exact contS.mk (by simp [Weak, TW, T.plain, encPat_eq, encInts_eq, encIss_eq, encIsss_eq, patR_1, patR_2]) h_7 (by kernel_rfl)
          refine anyS.cons rfl ?_ ?_
          · skip
            simp [encPat_eq, encInts_eq, encIss_eq, encIsss_eq, patR_1, patR_2, h10]
            repeat refine ⟨by first | omega | assumption | (simp only [maxLen]; omega) | (intros; omega) | decide, ?_⟩
            exact contS.mk (by simp [Weak, TW, T.plain, encPat_eq, encInts_eq, encIss_eq, encIsss_eq, patR_1, patR_2]) h_11 (by kernel_rfl)
          exact anyS.nil
        refine contS.now (f' := 18) (l' := #[false, false, false, false, false, false, false, false, false, false, false, false, false, false, false, false, false, false]) ?_ rfl (by kernel_rfl)
        refine coreS.dry E_ok (by kernel_rfl) 0 rfl rfl (by kernel_rfl) (by kernel_rfl) ?_
        simp [encPat_eq, encInts_eq, encIss_eq, encIsss_eq, patR_1, patR_2, h10]
        repeat refine ⟨by first | omega | assumption | (simp only [maxLen]; omega) | (intros; omega) | decide, ?_⟩
        refine contS.now (f' := 17) (l' := #[true, false, false, false, false, false, false, false, false, false, false, false, false, false, false, false, false, false]) ?_ rfl (by kernel_rfl)
        refine coreS.dry E_ok (by kernel_rfl) 1 rfl rfl (by kernel_rfl) (by kernel_rfl) ?_
        simp [encPat_eq, encInts_eq, encIss_eq, encIsss_eq, patR_1, patR_2, h10]
        repeat refine ⟨by first | omega | assumption | (simp only [maxLen]; omega) | (intros; omega) | decide, ?_⟩
        refine contS.now (f' := 16) (l' := #[true, true, false, false, false, false, false, false, false, false, false, false, false, false, false, false, false, false]) ?_ rfl (by kernel_rfl)
        refine coreS.dry E_ok (by kernel_rfl) 2 rfl rfl (by kernel_rfl) (by kernel_rfl) ?_
        simp [encPat_eq, encInts_eq, encIss_eq, encIsss_eq, patR_1, patR_2, h10]
        repeat refine ⟨by first | omega | assumption | (simp only [maxLen]; omega) | (intros; omega) | decide, ?_⟩
        refine contS.now (f' := 15) (l' := #[true, true, true, false, false, false, false, false, false, false, false, false, false, false, false, false, false, false]) ?_ rfl (by kernel_rfl)
        refine coreS.dry E_ok (by kernel_rfl) 3 rfl rfl (by kernel_rfl) (by kernel_rfl) ?_
        simp [encPat_eq, encInts_eq, encIss_eq, encIsss_eq, patR_1, patR_2, h10]
        repeat refine ⟨by first | omega | assumption | (simp only [maxLen]; omega) | (intros; omega) | decide, ?_⟩
        refine contS.now (f' := 14) (l' := #[true, true, true, true, false, false, false, false, false, false, false, false, false, false, false, false, false, false]) ?_ rfl (by kernel_rfl)
        refine coreS.dry E_ok (by kernel_rfl) 4 rfl rfl (by kernel_rfl) (by kernel_rfl) ?_
        simp [encPat_eq, encInts_eq, encIss_eq, encIsss_eq, patR_1, patR_2, h10]
        repeat refine ⟨by first | omega | assumption | (simp only [maxLen]; omega) | (intros; omega) | decide, ?_⟩
        refine contS.now (f' := 13) (l' := #[true, true, true, true, true, false, false, false, false, false, false, false, false, false, false, false, false, false]) ?_ rfl (by kernel_rfl)
        refine coreS.dry E_ok (by kernel_rfl) 5 rfl rfl (by kernel_rfl) (by kernel_rfl) ?_
        simp [encPat_eq, encInts_eq, encIss_eq, encIsss_eq, patR_1, patR_2, h10]
        repeat refine ⟨by first | omega | assumption | (simp only [maxLen]; omega) | (intros; omega) | decide, ?_⟩
        refine contS.now (f' := 12) (l' := #[true, true, true, true, true, true, false, false, false, false, false, false, false, false, false, false, false, false]) ?_ rfl (by kernel_rfl)
        refine coreS.dry E_ok (by kernel_rfl) 6 rfl rfl (by kernel_rfl) (by kernel_rfl) ?_
        simp [encPat_eq, encInts_eq, encIss_eq, encIsss_eq, patR_1, patR_2, h10]
        repeat refine ⟨by first | omega | assumption | (simp only [maxLen]; omega) | (intros; omega) | decide, ?_⟩
        refine contS.now (f' := 11) (l' := #[true, true, true, true, true, true, true, false, false, false, false, false, false, false, false, false, false, false]) ?_ rfl (by kernel_rfl)
        refine coreS.dry E_ok (by kernel_rfl) 8 rfl rfl (by kernel_rfl) (by kernel_rfl) ?_
        simp [encPat_eq, encInts_eq, encIss_eq, encIsss_eq, patR_1, patR_2, h10]
        repeat refine ⟨by first | omega | assumption | (simp only [maxLen]; omega) | (intros; omega) | decide, ?_⟩
        refine contS.now (f' := 10) (l' := #[true, true, true, true, true, true, true, false, true, false, false, false, false, false, false, false, false, false]) ?_ rfl (by kernel_rfl)
        refine coreS.dry E_ok (by kernel_rfl) 9 rfl rfl (by kernel_rfl) (by kernel_rfl) ?_
        simp [encPat_eq, encInts_eq, encIss_eq, encIsss_eq, patR_1, patR_2, h10]
        repeat refine ⟨by first | omega | assumption | (simp only [maxLen]; omega) | (intros; omega) | decide, ?_⟩
        refine contS.now (f' := 9) (l' := #[true, true, true, true, true, true, true, false, true, true, false, false, false, false, false, false, false, false]) ?_ rfl (by kernel_rfl)
        refine coreS.dry E_ok (by kernel_rfl) 12 rfl rfl (by kernel_rfl) (by kernel_rfl) ?_
        simp [encPat_eq, encInts_eq, encIss_eq, encIsss_eq, patR_1, patR_2, h10]
        repeat refine ⟨by first | omega | assumption | (simp only [maxLen]; omega) | (intros; omega) | decide, ?_⟩
        refine contS.now (f' := 8) (l' := #[true, true, true, true, true, true, true, false, true, true, false, false, true, false, false, false, false, false]) ?_ rfl (by kernel_rfl)
        refine coreS.dry E_ok (by kernel_rfl) 13 rfl rfl (by kernel_rfl) (by kernel_rfl) ?_
        simp [encPat_eq, encInts_eq, encIss_eq, encIsss_eq, patR_1, patR_2, h10]
        repeat refine ⟨by first | omega | assumption | (simp only [maxLen]; omega) | (intros; omega) | decide, ?_⟩
        exact contS.mk (by simp [Weak, TW, T.plain, encPat_eq, encInts_eq, encIss_eq, encIsss_eq, patR_1, patR_2]) h_ (by kernel_rfl)
      refine hK _ ?_
      clear hK K
      refine AWp.cond rfl (fun h36 => ?_) (fun h36 => ?_)
      · exact absurd h36 (by simp)
      · try simp at h36
        refine AWp.skip ?_
        repeat first | refine thenN ?_ | refine thenX ?_ | refine thenR ?_ | refine blockN ?_ | refine blockR ?_ | refine blockX ?_ | refine blockM rfl ?_
        -- region 7
        refine AWp.rseqQ E_ok mixed [0, 1, 2, 3, 4, 8, 10, 18, 36] (by kernel_rfl) fun K hK => ?_
        simp [encPat_eq, encInts_eq, encIss_eq, encIsss_eq, patR_1, patR_2, h10]
        repeat refine ⟨by first | omega | assumption | (simp only [maxLen]; omega) | (intros; omega) | decide, ?_⟩
        refine meet.of (pattern_Until p day hok2) ?_
        simp [encPat_eq, encInts_eq, encIss_eq, encIsss_eq, patR_1, patR_2, h10]
        repeat refine ⟨by first | omega | assumption | (simp only [maxLen]; omega) | (intros; omega) | decide, ?_⟩
        refine meet.of (ref36_Until p day hok2) ?_
        simp [encPat_eq, encInts_eq, encIss_eq, encIsss_eq, patR_1, patR_2, h10]
        repeat refine ⟨by first | omega | assumption | (simp only [maxLen]; omega) | (intros; omega) | decide, ?_⟩
        refine hK _ ?_
        clear hK K
        refine AWp.ret ?_
        repeat first | refine thenN ?_ | refine thenX ?_ | refine thenR ?_ | refine blockN ?_ | refine blockR ?_ | refine blockX ?_ | refine blockM rfl ?_
        simp [RetOk, RV]
end Go.Proofs.YtfaaceakmfokoaaDoor

set_option maxRecDepth 100000
set_option linter.unusedSimpArgs false
set_option linter.unusedVariables false
namespace Pl
end Pl
namespace Go.Proofs.YtfaaceakmfokoaaDoor
open Go Ab Pl
theorem open_int : Opens Tryd.prog 3 (fun n => [D.int .i64 n]) (fun n => IntKind.min .i64 ≤ n ∧ n ≤ IntKind.max .i64) := Opens.int Tryd.underlying3
theorem openV_int : OpensV Tryd.prog 3 (fun n => D.int .i64 n) (fun n => IntKind.min .i64 ≤ n ∧ n ≤ IntKind.max .i64) := Opens.one open_int (cells_int' Tryd.underlying3)
theorem open_api_Errno : Opens Tryd.prog 27 (fun n => [D.int .i64 n]) (fun n => IntKind.min .i64 ≤ n ∧ n ≤ IntKind.max .i64) := Opens.int Tryd.underlying27
theorem openV_api_Errno : OpensV Tryd.prog 27 (fun n => D.int .i64 n) (fun n => IntKind.min .i64 ≤ n ∧ n ≤ IntKind.max .i64) := Opens.one open_api_Errno (cells_int' Tryd.underlying27)
theorem open_uint8 : Opens Tryd.prog 5 (fun n => [D.int .u8 n]) (fun n => IntKind.min .u8 ≤ n ∧ n ≤ IntKind.max .u8) := Opens.int Tryd.underlying5
theorem openV_uint8 : OpensV Tryd.prog 5 (fun n => D.int .u8 n) (fun n => IntKind.min .u8 ≤ n ∧ n ≤ IntKind.max .u8) := Opens.one open_uint8 (cells_int' Tryd.underlying5)
theorem open_bool : Opens Tryd.prog 4 (fun b => [D.bool b]) (fun _ => True) := Opens.bool Tryd.underlying4
theorem openV_bool : OpensV Tryd.prog 4 (fun b => D.bool b) (fun _ => True) := Opens.one open_bool (cells_bool' Tryd.underlying4)
theorem open_string : Opens Tryd.prog 9 (fun s => [D.str s]) (fun s => s.length ≤ Go.maxLen) := Opens.str Tryd.underlying9
theorem openV_string : OpensV Tryd.prog 9 (fun s => D.str s) (fun s => s.length ≤ Go.maxLen) := Opens.one open_string (cells_str' Tryd.underlying9)
theorem open_s_int : Opens Tryd.prog 22 (fun l : List Int => [encInts l]) (fun l => l.length ≤ Go.maxLen) :=
  (Opens.slice Tryd.underlying22 (by kernel_rfl) (by decide) open_int (D.int .i64) (fun _ => rfl) (.int .i64 0) rfl).map id (fun _ => rfl) (fun _ h => h.2)
theorem openV_s_int : OpensV Tryd.prog 22 encInts (fun l => l.length ≤ Go.maxLen) := Opens.one open_s_int (cells_slice' Tryd.underlying22)
theorem open_api_Pattern : Opens Tryd.prog 24 (fun c : Pat => (encPat c).cells) (fun _ => True) :=
  (Opens.struct Tryd.underlying24 (OpensF.cons (n := 1) rfl (by kernel_rfl) open_int (fun _ => rfl) (OpensF.cons (n := 1) rfl (by kernel_rfl) open_int (fun _ => rfl) (OpensF.cons (n := 1) rfl (by kernel_rfl) open_int (fun _ => rfl) (OpensF.cons (n := 1) rfl (by kernel_rfl) open_int (fun _ => rfl) (OpensF.cons (n := 1) rfl (by kernel_rfl) open_s_int (fun _ => rfl) (OpensF.cons (n := 1) rfl (by kernel_rfl) open_s_int (fun _ => rfl) OpensF.nil)))))) (fun _ => by kernel_rfl)).map (fun p => (⟨p.1, p.2.1, p.2.2.1, p.2.2.2.1, p.2.2.2.2.1, p.2.2.2.2.2.1⟩ : Pat)) (fun _ => rfl) (fun _ _ => trivial)
theorem openV_api_Pattern : OpensV Tryd.prog 24 encPat (fun _ => True) := Opens.agg Tryd.underlying24 open_api_Pattern
theorem open_api_Issue : Opens Tryd.prog 30 (fun c : Iss => (encIss c).cells) (fun _ => True) :=
  (Opens.struct Tryd.underlying30 (OpensF.cons (n := 1) rfl (by kernel_rfl) open_int (fun _ => rfl) (OpensF.cons (n := 1) rfl (by kernel_rfl) open_int (fun _ => rfl) (OpensF.cons (n := 1) rfl (by kernel_rfl) open_int (fun _ => rfl) (OpensF.cons (n := 1) rfl (by kernel_rfl) open_int (fun _ => rfl) (OpensF.cons (n := 1) rfl (by kernel_rfl) open_int (fun _ => rfl) (OpensF.cons (n := 1) rfl (by kernel_rfl) open_int (fun _ => rfl) OpensF.nil)))))) (fun _ => by kernel_rfl)).map (fun p => (⟨p.1, p.2.1, p.2.2.1, p.2.2.2.1, p.2.2.2.2.1, p.2.2.2.2.2.1⟩ : Iss)) (fun _ => rfl) (fun _ _ => trivial)
theorem openV_api_Issue : OpensV Tryd.prog 30 encIss (fun _ => True) := Opens.agg Tryd.underlying30 open_api_Issue

end Go.Proofs.YtfaaceakmfokoaaDoor
