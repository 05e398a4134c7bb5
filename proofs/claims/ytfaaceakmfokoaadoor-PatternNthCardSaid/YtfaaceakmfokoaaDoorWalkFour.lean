/-
  What the functions compute that the statement reaches: contracts, and the plain laws between them. Conditions stand at each theorem.
-/
import Derived.Test.YtfaaceakmfokoaaDoorWalkThree
set_option linter.unusedVariables false
set_option linter.unusedSimpArgs false
set_option maxRecDepth 100000
set_option linter.unusedSimpArgs false
set_option linter.unusedVariables false
namespace Go.Proofs.YtfaaceakmfokoaaDoor
open Go Ab Pl
theorem ref36_Issues (p : Pat) (most unt : Int) (hp : PatOk p) : ACalls E.P 26 [encPat p, .int .i64 most, .int .i64 unt] (.d (encIsss (issR p most unt))) := by
  refine ACalls.intro E_ok Tryd.func26 rfl rfl Tryd.ntmps26 Tryd.results26 (Nat.le_of_ble_eq_true rfl) fun hok base S0 w0 => ?_
  have hfst := hp.2.2.2
  have hmin : min most 5000 = if 5000 < most then 5000 else most := by split <;> omega
  -- region 0
  refine AWp.rseq E_ok [0, 1, 2, 3, 6, 7, 8, 9, 10, 11, 12, 13, 14, 39, 65, 87] fun K hK => ?_
  simp [encPat_eq, encInts_eq, encIss_eq, encIsss_eq, monthD_1, monthD_2]
  try simp (disch := omega) only [wrap_i64]
  repeat refine ⟨by first | omega | assumption | (simp only [maxLen]; omega) | (intros; omega) | decide, ?_⟩
  refine hK _ ?_
  clear hK K
  -- region 1
  refine AWp.rseq E_ok [0, 1, 2, 3, 6, 7, 8, 9, 10, 11, 12, 13, 14, 39, 65, 87] fun K hK => ?_
  simp [encPat_eq, encInts_eq, encIss_eq, encIsss_eq, monthD_1, monthD_2]
  try simp (disch := omega) only [wrap_i64]
  repeat refine ⟨by first | omega | assumption | (simp only [maxLen]; omega) | (intros; omega) | decide, ?_⟩
  refine hK _ ?_
  clear hK K
  -- region 2
  refine AWp.rseq E_ok [0, 1, 2, 3, 6, 7, 8, 9, 10, 11, 12, 13, 14, 39, 65, 87] fun K hK => ?_
  simp [encPat_eq, encInts_eq, encIss_eq, encIsss_eq, monthD_1, monthD_2]
  try simp (disch := omega) only [wrap_i64]
  repeat refine ⟨by first | omega | assumption | (simp only [maxLen]; omega) | (intros; omega) | decide, ?_⟩
  refine hK _ ?_
  clear hK K
  -- region 3
  refine AWp.rseq E_ok [0, 1, 2, 3, 6, 7, 8, 9, 10, 11, 12, 13, 14, 39, 65, 87] fun K hK => ?_
  simp [encPat_eq, encInts_eq, encIss_eq, encIsss_eq, monthD_1, monthD_2]
  try simp (disch := omega) only [wrap_i64]
  repeat refine ⟨by first | omega | assumption | (simp only [maxLen]; omega) | (intros; omega) | decide, ?_⟩
  refine hK _ ?_
  clear hK K
  -- region 4
  refine AWp.rseq E_ok [0, 1, 2, 3, 6, 7, 8, 9, 10, 11, 12, 13, 14, 39, 65, 87] fun K hK => ?_
  simp [encPat_eq, encInts_eq, encIss_eq, encIsss_eq, monthD_1, monthD_2]
  try simp (disch := omega) only [wrap_i64]
  repeat refine ⟨by first | omega | assumption | (simp only [maxLen]; omega) | (intros; omega) | decide, ?_⟩
  refine meet.of (ref36_following p 0 hp (by omega)) ?_
  simp [encPat_eq, encInts_eq, encIss_eq, encIsss_eq, monthD_1, monthD_2]
  try simp (disch := omega) only [wrap_i64]
  repeat refine ⟨by first | omega | assumption | (simp only [maxLen]; omega) | (intros; omega) | decide, ?_⟩
  refine hK _ ?_
  clear hK K
  refine AWp.seq ?_
  refine AWp.block ?_
  refine AWp.loop (ι := { x : List Iss × Nat × Int × Int × (Option Int × Int) // IssI p most unt x.1 x.2.1 x.2.2.1 x.2.2.2.1 x.2.2.2.2 }) (fun x => match x with | ⟨⟨pre, f, vol, num, s⟩, hI⟩ => [(0, T.val (D.agg [D.int IntKind.i64 p.start, D.int IntKind.i64 p.every, D.int IntKind.i64 p.per, D.int IntKind.i64 p.first, (D.int IntKind.i64 0).slice (List.map (D.int IntKind.i64) p.skip), (D.int IntKind.i64 0).slice (List.map (D.int IntKind.i64) p.dbl)])), (1, T.val (D.int IntKind.i64 most)), (2, T.val (D.int IntKind.i64 unt)), (3, T.box [C.d (D.int IntKind.i64 p.start), C.d (D.int IntKind.i64 p.every), C.d (D.int IntKind.i64 p.per), C.d (D.int IntKind.i64 p.first), C.d ((D.int IntKind.i64 0).slice (List.map (D.int IntKind.i64) p.skip)), C.d ((D.int IntKind.i64 0).slice (List.map (D.int IntKind.i64) p.dbl))]), (7, T.own true (encIss zIss) (pre.map encIss)), (8, T.val (.int .i64 vol)), (9, T.val (.int .i64 num)), (10, T.val (.int .i64 (s.1.getD (-1)))), (11, T.val (.int .i64 s.2))]) (fun x => match x with | ⟨⟨pre, f, vol, num, s⟩, hI⟩ => f) ⟨([], 5000, p.first, 1, scan p 0), issI_start hp most unt⟩ ?_ ?_
  · simp [Weak, TW, encPat_eq, encInts_eq, encIss_eq, encIsss_eq, monthD_1, monthD_2]
  rintro ⟨⟨pre, f, vol, num, s⟩, hI⟩
  simp only
  try simp only at hI
  refine AWp.seq ?_
  -- region 5
  refine AWp.rseq E_ok [0, 1, 2, 3, 6, 7, 8, 9, 10, 11, 12, 13, 14, 39, 65, 87] fun K hK => ?_
  simp [encPat_eq, encInts_eq, encIss_eq, encIsss_eq, monthD_1, monthD_2]
  try simp (disch := omega) only [wrap_i64]
  repeat refine ⟨by first | omega | assumption | (simp only [maxLen]; omega) | (intros; omega) | decide, ?_⟩
  refine hK _ ?_
  clear hK K
  refine AWp.cond rfl (fun h39 => ?_) (fun h39 => ?_)
  · try simp at h39
    obtain ⟨d, k, rfl⟩ : ∃ d k, s = (some d, k) := by obtain ⟨so, k⟩ := s; cases so with | none => exact absurd h39.1.1.2 (by simp) | some d => exact ⟨d, k, rfl⟩
    have hlen : pre.length + f = 5000 := hI.2.1
    have hvn := hI.2.2.2.2
    obtain ⟨hd0, hk0, hk1⟩ := hI.2.2.2.2.2.2 d rfl
    simp only at hk0 hk1
    have hper := hp.2.2.1
    refine AWp.skip ?_
    repeat first | refine thenN ?_ | refine thenX ?_ | refine thenR ?_ | refine blockN ?_ | refine blockR ?_ | refine blockX ?_ | refine blockM rfl ?_
    refine AWp.block ?_
    -- region 6
    refine AWp.rseq E_ok [0, 1, 2, 3, 6, 7, 8, 9, 10, 11, 12, 13, 14, 39, 65, 87] fun K hK => ?_
    simp [encPat_eq, encInts_eq, encIss_eq, encIsss_eq, monthD_1, monthD_2]
    try simp (disch := omega) only [wrap_i64]
    repeat refine ⟨by first | omega | assumption | (simp only [maxLen]; omega) | (intros; omega) | decide, ?_⟩
    refine hK _ ?_
    clear hK K
    -- region 7
    refine AWp.rseq E_ok [0, 1, 2, 3, 6, 7, 8, 9, 10, 11, 12, 13, 14, 39, 65, 87] fun K hK => ?_
    simp [encPat_eq, encInts_eq, encIss_eq, encIsss_eq, monthD_1, monthD_2]
    try simp (disch := omega) only [wrap_i64]
    repeat refine ⟨by first | omega | assumption | (simp only [maxLen]; omega) | (intros; omega) | decide, ?_⟩
    refine meet.of (ref36_following p (k + 1) hp (by omega)) ?_
    simp [encPat_eq, encInts_eq, encIss_eq, encIsss_eq, monthD_1, monthD_2]
    try simp (disch := omega) only [wrap_i64]
    repeat refine ⟨by first | omega | assumption | (simp only [maxLen]; omega) | (intros; omega) | decide, ?_⟩
    refine hK _ ?_
    clear hK K
    refine AWp.seq ?_
    -- region 8
    refine AWp.rseqQ E_ok mixed [0, 1, 2, 3, 6, 7, 8, 9, 10, 11, 12, 13, 14, 39, 65, 87] (by kernel_rfl) fun K hK => ?_
    simp [encPat_eq, encInts_eq, encIss_eq, encIsss_eq, monthD_1, monthD_2]
    try simp (disch := omega) only [wrap_i64]
    repeat refine ⟨by first | omega | assumption | (simp only [maxLen]; omega) | (intros; omega) | decide, ?_⟩
    refine meet.of (ref36_month _) ?_
    simp [encPat_eq, encInts_eq, encIss_eq, encIsss_eq, monthD_1, monthD_2]
    try simp (disch := omega) only [wrap_i64]
    repeat refine ⟨by first | omega | assumption | (simp only [maxLen]; omega) | (intros; omega) | decide, ?_⟩
    refine meet.of (ref36_in p.dbl _) ?_
    simp [encPat_eq, encInts_eq, encIss_eq, encIsss_eq, monthD_1, monthD_2]
    try simp (disch := omega) only [wrap_i64]
    repeat refine ⟨by first | omega | assumption | (simp only [maxLen]; omega) | (intros; omega) | decide, ?_⟩
    refine hK _ ?_
    clear hK K
    refine AWp.cond rfl (fun h65 => ?_) (fun h65 => ?_)
    · try simp at h65
      have hdb := (dbl_iff (num := num) (d := d) hp (k := k + 1) (by omega) (by omega)).2 (by simpa using h65)
      obtain ⟨hst, hf1⟩ := issI_dbl hp hI (by rw [hmin]; exact h39.1.1.1) h39.1.2 h39.2 hdb
      have hsc := scan_at hp (k := k + 1) (d := (scan p (k + 1)).1.getD 0) (by omega) (by omega) (by have := (scan_neg hp (k := k + 1) (by omega) (by omega)).1 h65.1.2; obtain ⟨z, hz⟩ := Option.isSome_iff_exists.1 this; rw [hz]; rfl)
      -- region 9
      refine AWp.rseq E_ok [0, 1, 2, 3, 6, 7, 8, 9, 10, 11, 12, 13, 14, 39, 65, 87] fun K hK => ?_
      simp [encPat_eq, encInts_eq, encIss_eq, encIsss_eq, monthD_1, monthD_2]
      try simp (disch := omega) only [wrap_i64]
      repeat refine ⟨by first | omega | assumption | (simp only [maxLen]; omega) | (intros; omega) | decide, ?_⟩
      refine hK _ ?_
      clear hK K
      -- region 10
      refine AWp.rseq E_ok [0, 1, 2, 3, 6, 7, 8, 9, 10, 11, 12, 13, 14, 39, 65, 87] fun K hK => ?_
      simp [encPat_eq, encInts_eq, encIss_eq, encIsss_eq, monthD_1, monthD_2]
      try simp (disch := omega) only [wrap_i64]
      repeat refine ⟨by first | omega | assumption | (simp only [maxLen]; omega) | (intros; omega) | decide, ?_⟩
      refine hK _ ?_
      clear hK K
      -- region 11
      refine AWp.rend E_ok [0, 1, 2, 3, 6, 7, 8, 9, 10, 11, 12, 13, 14, 39, 65, 87] fun K hK => ?_
      simp [encPat_eq, encInts_eq, encIss_eq, encIsss_eq, monthD_1, monthD_2]
      try simp (disch := omega) only [wrap_i64]
      repeat refine ⟨by first | omega | assumption | (simp only [maxLen]; omega) | (intros; omega) | decide, ?_⟩
      refine meet.of (ref36_following p ((scan p (k + 1)).2 + 1) hp (by omega)) ?_
      simp [encPat_eq, encInts_eq, encIss_eq, encIsss_eq, monthD_1, monthD_2]
      try simp (disch := omega) only [wrap_i64]
      repeat refine ⟨by first | omega | assumption | (simp only [maxLen]; omega) | (intros; omega) | decide, ?_⟩
      refine hK _ ?_
      clear hK K
      repeat first | refine thenN ?_ | refine thenX ?_ | refine thenR ?_ | refine blockN ?_ | refine blockR ?_ | refine blockX ?_ | refine blockM rfl ?_
      -- region 12
      refine AWp.rseq E_ok [0, 1, 2, 3, 6, 7, 8, 9, 10, 11, 12, 13, 14, 39, 65, 87] fun K hK => ?_
      simp [encPat_eq, encInts_eq, encIss_eq, encIsss_eq, monthD_1, monthD_2]
      try simp (disch := omega) only [wrap_i64]
      repeat refine ⟨by first | omega | assumption | (simp only [maxLen]; omega) | (intros; omega) | decide, ?_⟩
      refine hK _ ?_
      clear hK K
      -- region 13
      refine AWp.rseq E_ok [0, 1, 2, 3, 6, 7, 8, 9, 10, 11, 12, 13, 14, 39, 65, 87] fun K hK => ?_
      simp [encPat_eq, encInts_eq, encIss_eq, encIsss_eq, monthD_1, monthD_2]
      try simp (disch := omega) only [wrap_i64]
      repeat refine ⟨by first | omega | assumption | (simp only [maxLen]; omega) | (intros; omega) | decide, ?_⟩
      refine hK _ ?_
      clear hK K
      refine AWp.seq ?_
      -- region 14
      refine AWp.rseq E_ok [0, 1, 2, 3, 6, 7, 8, 9, 10, 11, 12, 13, 14, 39, 65, 87] fun K hK => ?_
      simp [encPat_eq, encInts_eq, encIss_eq, encIsss_eq, monthD_1, monthD_2]
      try simp (disch := omega) only [wrap_i64]
      repeat refine ⟨by first | omega | assumption | (simp only [maxLen]; omega) | (intros; omega) | decide, ?_⟩
      refine hK _ ?_
      clear hK K
      refine AWp.cond rfl (fun h87 => ?_) (fun h87 => ?_)
      · try simp at h87
        first | rw [show volN p vol (num + 2) = vol + 1 from if_pos (by omega), show numN p (num + 2) = 1 from if_pos (by omega)] at hst | rw [show volN p vol (num + 1) = vol + 1 from if_pos (by omega), show numN p (num + 1) = 1 from if_pos (by omega)] at hst
        -- region 15
        refine AWp.rseq E_ok [0, 1, 2, 3, 6, 7, 8, 9, 10, 11, 12, 13, 14, 39, 65, 87] fun K hK => ?_
        simp [encPat_eq, encInts_eq, encIss_eq, encIsss_eq, monthD_1, monthD_2]
        try simp (disch := omega) only [wrap_i64]
        repeat refine ⟨by first | omega | assumption | (simp only [maxLen]; omega) | (intros; omega) | decide, ?_⟩
        refine hK _ ?_
        clear hK K
        -- region 16
        refine AWp.rend E_ok [0, 1, 2, 3, 6, 7, 8, 9, 10, 11, 12, 13, 14, 39, 65, 87] fun K hK => ?_
        simp [encPat_eq, encInts_eq, encIss_eq, encIsss_eq, monthD_1, monthD_2]
        try simp (disch := omega) only [wrap_i64]
        repeat refine ⟨by first | omega | assumption | (simp only [maxLen]; omega) | (intros; omega) | decide, ?_⟩
        refine hK _ ?_
        clear hK K
        repeat first | refine thenN ?_ | refine thenX ?_ | refine thenR ?_ | refine blockN ?_ | refine blockR ?_ | refine blockX ?_ | refine blockM rfl ?_
        -- region 17
        refine AWp.rseq E_ok [0, 1, 2, 3, 6, 7, 8, 9, 10, 11, 12, 13, 14, 39, 65, 87] fun K hK => ?_
        simp [encPat_eq, encInts_eq, encIss_eq, encIsss_eq, monthD_1, monthD_2]
        try simp (disch := omega) only [wrap_i64]
        repeat refine ⟨by first | omega | assumption | (simp only [maxLen]; omega) | (intros; omega) | decide, ?_⟩
        refine hK _ ?_
        clear hK K
        -- region 18
        refine AWp.rend E_ok [0, 1, 2, 3, 6, 7, 8, 9, 10, 11, 12, 13, 14, 39, 65, 87] fun K hK => ?_
        simp [encPat_eq, encInts_eq, encIss_eq, encIsss_eq, monthD_1, monthD_2]
        try simp (disch := omega) only [wrap_i64]
        repeat refine ⟨by first | omega | assumption | (simp only [maxLen]; omega) | (intros; omega) | decide, ?_⟩
        refine hK _ ?_
        clear hK K
        repeat first | refine thenN ?_ | refine thenX ?_ | refine thenR ?_ | refine blockN ?_ | refine blockR ?_ | refine blockX ?_ | refine blockM rfl ?_
        refine ⟨⟨(pre ++ [_], f - 1, _, _, _), hst⟩, ?_, by dsimp only; omega⟩
        try dsimp only
        simp [Weak, TW, encIss_eq]
        exact ⟨rfl, rfl⟩
      · try simp at h87
        first | rw [show volN p vol (num + 2) = vol from if_neg (by omega), show numN p (num + 2) = num + 1 + 1 by unfold numN; rw [if_neg (by omega)]; omega] at hst | rw [show volN p vol (num + 1) = vol from if_neg (by omega), show numN p (num + 1) = num + 1 from if_neg (by omega)] at hst
        refine AWp.skip ?_
        repeat first | refine thenN ?_ | refine thenX ?_ | refine thenR ?_ | refine blockN ?_ | refine blockR ?_ | refine blockX ?_ | refine blockM rfl ?_
        -- region 17
        refine AWp.rseq E_ok [0, 1, 2, 3, 6, 7, 8, 9, 10, 11, 12, 13, 14, 39, 65, 87] fun K hK => ?_
        simp [encPat_eq, encInts_eq, encIss_eq, encIsss_eq, monthD_1, monthD_2]
        try simp (disch := omega) only [wrap_i64]
        repeat refine ⟨by first | omega | assumption | (simp only [maxLen]; omega) | (intros; omega) | decide, ?_⟩
        refine hK _ ?_
        clear hK K
        -- region 18
        refine AWp.rend E_ok [0, 1, 2, 3, 6, 7, 8, 9, 10, 11, 12, 13, 14, 39, 65, 87] fun K hK => ?_
        simp [encPat_eq, encInts_eq, encIss_eq, encIsss_eq, monthD_1, monthD_2]
        try simp (disch := omega) only [wrap_i64]
        repeat refine ⟨by first | omega | assumption | (simp only [maxLen]; omega) | (intros; omega) | decide, ?_⟩
        refine hK _ ?_
        clear hK K
        repeat first | refine thenN ?_ | refine thenX ?_ | refine thenR ?_ | refine blockN ?_ | refine blockR ?_ | refine blockX ?_ | refine blockM rfl ?_
        refine ⟨⟨(pre ++ [_], f - 1, _, _, _), hst⟩, ?_, by dsimp only; omega⟩
        try dsimp only
        simp [Weak, TW, encIss_eq]
        exact ⟨rfl, rfl⟩
    · try simp at h65
      have hdb : dblB p num d (scan p (k + 1)) = false := by cases hc : dblB p num d (scan p (k + 1)) with | false => rfl | true => have h1 := (dbl_iff (num := num) (d := d) hp (k := k + 1) (by omega) (by omega)).1 hc; have h2 := h65 (by simpa using h1.1.1) h1.1.2; omega
      obtain ⟨hst, hf1⟩ := issI_one hp hI (by rw [hmin]; exact h39.1.1.1) h39.1.2 h39.2 hdb
      refine AWp.skip ?_
      repeat first | refine thenN ?_ | refine thenX ?_ | refine thenR ?_ | refine blockN ?_ | refine blockR ?_ | refine blockX ?_ | refine blockM rfl ?_
      -- region 12
      refine AWp.rseq E_ok [0, 1, 2, 3, 6, 7, 8, 9, 10, 11, 12, 13, 14, 39, 65, 87] fun K hK => ?_
      simp [encPat_eq, encInts_eq, encIss_eq, encIsss_eq, monthD_1, monthD_2]
      try simp (disch := omega) only [wrap_i64]
      repeat refine ⟨by first | omega | assumption | (simp only [maxLen]; omega) | (intros; omega) | decide, ?_⟩
      refine hK _ ?_
      clear hK K
      -- region 13
      refine AWp.rseq E_ok [0, 1, 2, 3, 6, 7, 8, 9, 10, 11, 12, 13, 14, 39, 65, 87] fun K hK => ?_
      simp [encPat_eq, encInts_eq, encIss_eq, encIsss_eq, monthD_1, monthD_2]
      try simp (disch := omega) only [wrap_i64]
      repeat refine ⟨by first | omega | assumption | (simp only [maxLen]; omega) | (intros; omega) | decide, ?_⟩
      refine hK _ ?_
      clear hK K
      refine AWp.seq ?_
      -- region 14
      refine AWp.rseq E_ok [0, 1, 2, 3, 6, 7, 8, 9, 10, 11, 12, 13, 14, 39, 65, 87] fun K hK => ?_
      simp [encPat_eq, encInts_eq, encIss_eq, encIsss_eq, monthD_1, monthD_2]
      try simp (disch := omega) only [wrap_i64]
      repeat refine ⟨by first | omega | assumption | (simp only [maxLen]; omega) | (intros; omega) | decide, ?_⟩
      refine hK _ ?_
      clear hK K
      refine AWp.cond rfl (fun h87 => ?_) (fun h87 => ?_)
      · try simp at h87
        first | rw [show volN p vol (num + 2) = vol + 1 from if_pos (by omega), show numN p (num + 2) = 1 from if_pos (by omega)] at hst | rw [show volN p vol (num + 1) = vol + 1 from if_pos (by omega), show numN p (num + 1) = 1 from if_pos (by omega)] at hst
        -- region 15
        refine AWp.rseq E_ok [0, 1, 2, 3, 6, 7, 8, 9, 10, 11, 12, 13, 14, 39, 65, 87] fun K hK => ?_
        simp [encPat_eq, encInts_eq, encIss_eq, encIsss_eq, monthD_1, monthD_2]
        try simp (disch := omega) only [wrap_i64]
        repeat refine ⟨by first | omega | assumption | (simp only [maxLen]; omega) | (intros; omega) | decide, ?_⟩
        refine hK _ ?_
        clear hK K
        -- region 16
        refine AWp.rend E_ok [0, 1, 2, 3, 6, 7, 8, 9, 10, 11, 12, 13, 14, 39, 65, 87] fun K hK => ?_
        simp [encPat_eq, encInts_eq, encIss_eq, encIsss_eq, monthD_1, monthD_2]
        try simp (disch := omega) only [wrap_i64]
        repeat refine ⟨by first | omega | assumption | (simp only [maxLen]; omega) | (intros; omega) | decide, ?_⟩
        refine hK _ ?_
        clear hK K
        repeat first | refine thenN ?_ | refine thenX ?_ | refine thenR ?_ | refine blockN ?_ | refine blockR ?_ | refine blockX ?_ | refine blockM rfl ?_
        -- region 17
        refine AWp.rseq E_ok [0, 1, 2, 3, 6, 7, 8, 9, 10, 11, 12, 13, 14, 39, 65, 87] fun K hK => ?_
        simp [encPat_eq, encInts_eq, encIss_eq, encIsss_eq, monthD_1, monthD_2]
        try simp (disch := omega) only [wrap_i64]
        repeat refine ⟨by first | omega | assumption | (simp only [maxLen]; omega) | (intros; omega) | decide, ?_⟩
        refine hK _ ?_
        clear hK K
        -- region 18
        refine AWp.rend E_ok [0, 1, 2, 3, 6, 7, 8, 9, 10, 11, 12, 13, 14, 39, 65, 87] fun K hK => ?_
        simp [encPat_eq, encInts_eq, encIss_eq, encIsss_eq, monthD_1, monthD_2]
        try simp (disch := omega) only [wrap_i64]
        repeat refine ⟨by first | omega | assumption | (simp only [maxLen]; omega) | (intros; omega) | decide, ?_⟩
        refine hK _ ?_
        clear hK K
        repeat first | refine thenN ?_ | refine thenX ?_ | refine thenR ?_ | refine blockN ?_ | refine blockR ?_ | refine blockX ?_ | refine blockM rfl ?_
        refine ⟨⟨(pre ++ [_], f - 1, _, _, _), hst⟩, ?_, by dsimp only; omega⟩
        try dsimp only
        simp [Weak, TW, encIss_eq]
        exact ⟨rfl, rfl⟩
      · try simp at h87
        first | rw [show volN p vol (num + 2) = vol from if_neg (by omega), show numN p (num + 2) = num + 1 + 1 by unfold numN; rw [if_neg (by omega)]; omega] at hst | rw [show volN p vol (num + 1) = vol from if_neg (by omega), show numN p (num + 1) = num + 1 from if_neg (by omega)] at hst
        refine AWp.skip ?_
        repeat first | refine thenN ?_ | refine thenX ?_ | refine thenR ?_ | refine blockN ?_ | refine blockR ?_ | refine blockX ?_ | refine blockM rfl ?_
        -- region 17
        refine AWp.rseq E_ok [0, 1, 2, 3, 6, 7, 8, 9, 10, 11, 12, 13, 14, 39, 65, 87] fun K hK => ?_
        simp [encPat_eq, encInts_eq, encIss_eq, encIsss_eq, monthD_1, monthD_2]
        try simp (disch := omega) only [wrap_i64]
        repeat refine ⟨by first | omega | assumption | (simp only [maxLen]; omega) | (intros; omega) | decide, ?_⟩
        refine hK _ ?_
        clear hK K
        -- region 18
        refine AWp.rend E_ok [0, 1, 2, 3, 6, 7, 8, 9, 10, 11, 12, 13, 14, 39, 65, 87] fun K hK => ?_
        simp [encPat_eq, encInts_eq, encIss_eq, encIsss_eq, monthD_1, monthD_2]
        try simp (disch := omega) only [wrap_i64]
        repeat refine ⟨by first | omega | assumption | (simp only [maxLen]; omega) | (intros; omega) | decide, ?_⟩
        refine hK _ ?_
        clear hK K
        repeat first | refine thenN ?_ | refine thenX ?_ | refine thenR ?_ | refine blockN ?_ | refine blockR ?_ | refine blockX ?_ | refine blockM rfl ?_
        refine ⟨⟨(pre ++ [_], f - 1, _, _, _), hst⟩, ?_, by dsimp only; omega⟩
        try dsimp only
        simp [Weak, TW, encIss_eq]
        exact ⟨rfl, rfl⟩
  · try simp at h39
    have hdn := issI_done hI (by intro hh; have := h39 (hmin ▸ hh.1.1.1) hh.1.1.2 hh.1.2; omega)
    refine AWp.exit ?_
    repeat first | refine thenN ?_ | refine thenX ?_ | refine thenR ?_ | refine blockN ?_ | refine blockR ?_ | refine blockX ?_ | refine blockM rfl ?_
    -- region 19
    refine AWp.rseq E_ok [0, 1, 2, 3, 6, 7, 8, 9, 10, 11, 12, 13, 14, 39, 65, 87] fun K hK => ?_
    simp [encPat_eq, encInts_eq, encIss_eq, encIsss_eq, monthD_1, monthD_2]
    try simp (disch := omega) only [wrap_i64]
    repeat refine ⟨by first | omega | assumption | (simp only [maxLen]; omega) | (intros; omega) | decide, ?_⟩
    refine hK _ ?_
    clear hK K
    refine AWp.ret ?_
    repeat first | refine thenN ?_ | refine thenX ?_ | refine thenR ?_ | refine blockN ?_ | refine blockR ?_ | refine blockX ?_ | refine blockM rfl ?_
    simp [RetOk, RV, RVs, hdn, encIss_eq, encIsss_eq]
end Go.Proofs.YtfaaceakmfokoaaDoor

set_option maxRecDepth 100000
set_option linter.unusedSimpArgs false
set_option linter.unusedVariables false
namespace Go.Proofs.YtfaaceakmfokoaaDoor
open Go Ab Pl
theorem ref36_Nth (p : Pat) (n : Int) (hp : PatOk p) : ACalls E.P 13 [encPat p, .int .i64 n] (.tup [encIss (nthR p n).1, .int .i64 (nthR p n).2]) := by
  refine ACalls.intro E_ok Tryd.func13 rfl rfl Tryd.ntmps13 Tryd.results13 (Nat.le_of_ble_eq_true rfl) fun hok base S0 w0 => ?_
  -- region 0
  refine AWp.rseq E_ok [0, 1, 2, 4, 5, 6, 12, 21] fun K hK => ?_
  simp [encPat_eq, encInts_eq, encIss_eq, encIsss_eq]
  try simp (disch := omega) only [wrap_i64]
  repeat refine ⟨by first | omega | assumption | (simp only [maxLen]; omega) | (intros; omega) | decide, ?_⟩
  refine hK _ ?_
  clear hK K
  refine AWp.seq ?_
  -- region 1
  refine AWp.rseq E_ok [0, 1, 2, 4, 5, 6, 12, 21] fun K hK => ?_
  simp [encPat_eq, encInts_eq, encIss_eq, encIsss_eq]
  try simp (disch := omega) only [wrap_i64]
  repeat refine ⟨by first | omega | assumption | (simp only [maxLen]; omega) | (intros; omega) | decide, ?_⟩
  refine hK _ ?_
  clear hK K
  refine AWp.cond rfl (fun h12 => ?_) (fun h12 => ?_)
  · try simp at h12
    have hb := nth_out (p := p) (n := n) hp (by omega)
    -- region 2
    refine AWp.rseq E_ok [0, 1, 2, 4, 5, 6, 12, 21] fun K hK => ?_
    simp [encPat_eq, encInts_eq, encIss_eq, encIsss_eq]
    try simp (disch := omega) only [wrap_i64]
    repeat refine ⟨by first | omega | assumption | (simp only [maxLen]; omega) | (intros; omega) | decide, ?_⟩
    refine hK _ ?_
    clear hK K
    refine AWp.ret ?_
    repeat first | refine thenN ?_ | refine thenX ?_ | refine thenR ?_ | refine blockN ?_ | refine blockR ?_ | refine blockX ?_ | refine blockM rfl ?_
    simp [RetOk, RV, RVs, hb, zIss, encIss_eq]
  · try simp at h12
    have hl := iss_nth (p := p) (n := n) hp (by omega)
    refine AWp.skip ?_
    repeat first | refine thenN ?_ | refine thenX ?_ | refine thenR ?_ | refine blockN ?_ | refine blockR ?_ | refine blockX ?_ | refine blockM rfl ?_
    -- region 3
    refine AWp.rseq E_ok [0, 1, 2, 4, 5, 6, 12, 21] fun K hK => ?_
    simp [encPat_eq, encInts_eq, encIss_eq, encIsss_eq, hl]
    try simp (disch := omega) only [wrap_i64]
    repeat refine ⟨by first | omega | assumption | (simp only [maxLen]; omega) | (intros; omega) | decide, ?_⟩
    refine meet.of (ref36_Issues p (n + 1) 109572 hp) ?_
    simp [encPat_eq, encInts_eq, encIss_eq, encIsss_eq, hl]
    try simp (disch := omega) only [wrap_i64]
    repeat refine ⟨by first | omega | assumption | (simp only [maxLen]; omega) | (intros; omega) | decide, ?_⟩
    refine hK _ ?_
    clear hK K
    refine AWp.seq ?_
    -- region 4
    refine AWp.rseq E_ok [0, 1, 2, 4, 5, 6, 12, 21] fun K hK => ?_
    simp [encPat_eq, encInts_eq, encIss_eq, encIsss_eq, hl]
    try simp (disch := omega) only [wrap_i64]
    repeat refine ⟨by first | omega | assumption | (simp only [maxLen]; omega) | (intros; omega) | decide, ?_⟩
    refine hK _ ?_
    clear hK K
    refine AWp.cond rfl (fun h21 => ?_) (fun h21 => ?_)
    · try simp at h21
      have hb := nth_miss (p := p) (n := n) (by omega)
      -- region 5
      refine AWp.rseq E_ok [0, 1, 2, 4, 5, 6, 12, 21] fun K hK => ?_
      simp [encPat_eq, encInts_eq, encIss_eq, encIsss_eq, hl]
      try simp (disch := omega) only [wrap_i64]
      repeat refine ⟨by first | omega | assumption | (simp only [maxLen]; omega) | (intros; omega) | decide, ?_⟩
      refine hK _ ?_
      clear hK K
      refine AWp.ret ?_
      repeat first | refine thenN ?_ | refine thenX ?_ | refine thenR ?_ | refine blockN ?_ | refine blockR ?_ | refine blockX ?_ | refine blockM rfl ?_
      simp [RetOk, RV, RVs, hb, zIss, encIss_eq]
    · try simp at h21
      obtain ⟨x, hx, hb⟩ := nth_get2 (p := p) (n := n) (by omega) (by omega)
      refine AWp.skip ?_
      repeat first | refine thenN ?_ | refine thenX ?_ | refine thenR ?_ | refine blockN ?_ | refine blockR ?_ | refine blockX ?_ | refine blockM rfl ?_
      -- region 6
      refine AWp.rseq E_ok [0, 1, 2, 4, 5, 6, 12, 21] fun K hK => ?_
      simp [encPat_eq, encInts_eq, encIss_eq, encIsss_eq, hl, hx]
      try simp (disch := omega) only [wrap_i64]
      repeat refine ⟨by first | omega | assumption | (simp only [maxLen]; omega) | (intros; omega) | decide, ?_⟩
      refine hK _ ?_
      clear hK K
      refine AWp.ret ?_
      repeat first | refine thenN ?_ | refine thenX ?_ | refine thenR ?_ | refine blockN ?_ | refine blockR ?_ | refine blockX ?_ | refine blockM rfl ?_
      simp [RetOk, RV, RVs, hb, zIss, encIss_eq]
end Go.Proofs.YtfaaceakmfokoaaDoor

set_option maxRecDepth 100000
set_option linter.unusedSimpArgs false
set_option linter.unusedVariables false
namespace Go.Proofs.YtfaaceakmfokoaaDoor
open Go Ab Pl
theorem law36_PatternNth (p : Pat) (n : Int) : ACalls E.P 3 [encPat p, .int .i64 n] (.d (.bool true)) := by
  refine ACalls.intro E_ok Tryd.func3 rfl rfl Tryd.ntmps3 Tryd.results3 (Nat.le_of_ble_eq_true rfl) fun hok base S0 w0 => ?_
  -- region 0
  refine AWp.rseq E_ok [0, 1, 2, 4, 5, 6, 7, 8, 10, 18] fun K hK => ?_
  simp [encPat_eq, encInts_eq, encIss_eq, patR_1, patR_2]
  repeat refine ⟨by first | omega | assumption | (simp only [maxLen]; omega) | (intros; omega) | decide, ?_⟩
  refine hK _ ?_
  clear hK K
  refine AWp.seq ?_
  -- region 1
  refine AWp.rseq E_ok [0, 1, 2, 4, 5, 6, 7, 8, 10, 18] fun K hK => ?_
  simp [encPat_eq, encInts_eq, encIss_eq, patR_1, patR_2]
  repeat refine ⟨by first | omega | assumption | (simp only [maxLen]; omega) | (intros; omega) | decide, ?_⟩
  refine meet.of (law36_alive) ?_
  simp [encPat_eq, encInts_eq, encIss_eq, patR_1, patR_2]
  repeat refine ⟨by first | omega | assumption | (simp only [maxLen]; omega) | (intros; omega) | decide, ?_⟩
  refine hK _ ?_
  clear hK K
  refine AWp.cond rfl (fun h10 => ?_) (fun h10 => ?_)
  · exact absurd h10 (by simp)
  · try simp at h10
    refine AWp.skip ?_
    repeat first | refine thenN ?_ | refine thenX ?_ | refine thenR ?_ | refine blockN ?_ | refine blockR ?_ | refine blockX ?_ | refine blockM rfl ?_
    refine AWp.seq ?_
    -- region 3
    refine AWp.rseq E_ok [0, 1, 2, 4, 5, 6, 7, 8, 10, 18] fun K hK => ?_
    simp [encPat_eq, encInts_eq, encIss_eq, patR_1, patR_2, h10]
    repeat refine ⟨by first | omega | assumption | (simp only [maxLen]; omega) | (intros; omega) | decide, ?_⟩
    refine meet.of (law36_short p) ?_
    simp [encPat_eq, encInts_eq, encIss_eq, patR_1, patR_2, h10]
    repeat refine ⟨by first | omega | assumption | (simp only [maxLen]; omega) | (intros; omega) | decide, ?_⟩
    refine meet.of (ref36_Right p) ?_
    simp [encPat_eq, encInts_eq, encIss_eq, patR_1, patR_2, h10]
    repeat refine ⟨by first | omega | assumption | (simp only [maxLen]; omega) | (intros; omega) | decide, ?_⟩
    refine hK _ ?_
    clear hK K
    refine AWp.cond rfl (fun h18 => ?_) (fun h18 => ?_)
    · try simp at h18
      -- region 4
      refine AWp.rseq E_ok [0, 1, 2, 4, 5, 6, 7, 8, 10, 18] fun K hK => ?_
      simp [encPat_eq, encInts_eq, encIss_eq, patR_1, patR_2, h10]
      repeat refine ⟨by first | omega | assumption | (simp only [maxLen]; omega) | (intros; omega) | decide, ?_⟩
      refine hK _ ?_
      clear hK K
      refine AWp.ret ?_
      repeat first | refine thenN ?_ | refine thenX ?_ | refine thenR ?_ | refine blockN ?_ | refine blockR ?_ | refine blockX ?_ | refine blockM rfl ?_
      simp [RetOk, RV]
    · try simp at h18
      have hok2 : PatOk p := patR_ok (by simpa using h18.2)
      refine AWp.skip ?_
      repeat first | refine thenN ?_ | refine thenX ?_ | refine thenR ?_ | refine blockN ?_ | refine blockR ?_ | refine blockX ?_ | refine blockM rfl ?_
      -- region 5
      refine AWp.rseq E_ok [0, 1, 2, 4, 5, 6, 7, 8, 10, 18] fun K hK => ?_
      simp [encPat_eq, encInts_eq, encIss_eq, patR_1, patR_2, h10]
      repeat refine ⟨by first | omega | assumption | (simp only [maxLen]; omega) | (intros; omega) | decide, ?_⟩
      refine meet.of (pattern_Nth p n hok2) ?_
      simp [encPat_eq, encInts_eq, encIss_eq, patR_1, patR_2, h10]
      repeat refine ⟨by first | omega | assumption | (simp only [maxLen]; omega) | (intros; omega) | decide, ?_⟩
      refine hK _ ?_
      clear hK K
      -- region 6
      refine AWp.rseq E_ok [0, 1, 2, 4, 5, 6, 7, 8, 10, 18] fun K hK => ?_
      simp [encPat_eq, encInts_eq, encIss_eq, patR_1, patR_2, h10]
      repeat refine ⟨by first | omega | assumption | (simp only [maxLen]; omega) | (intros; omega) | decide, ?_⟩
      refine meet.of (ref36_Nth p n hok2) ?_
      simp [encPat_eq, encInts_eq, encIss_eq, patR_1, patR_2, h10]
      repeat refine ⟨by first | omega | assumption | (simp only [maxLen]; omega) | (intros; omega) | decide, ?_⟩
      refine hK _ ?_
      clear hK K
      -- region 7
      refine AWp.rseq E_ok [0, 1, 2, 4, 5, 6, 7, 8, 10, 18] fun K hK => ?_
      simp [encPat_eq, encInts_eq, encIss_eq, patR_1, patR_2, h10]
      repeat refine ⟨by first | omega | assumption | (simp only [maxLen]; omega) | (intros; omega) | decide, ?_⟩
      refine hK _ ?_
      clear hK K
      refine AWp.ret ?_
      repeat first | refine thenN ?_ | refine thenX ?_ | refine thenR ?_ | refine blockN ?_ | refine blockR ?_ | refine blockX ?_ | refine blockM rfl ?_
      simp [RetOk, RV]
end Go.Proofs.YtfaaceakmfokoaaDoor

set_option maxRecDepth 100000
set_option linter.unusedSimpArgs false
set_option linter.unusedVariables false
namespace Pl
end Pl
namespace Go.Proofs.YtfaaceakmfokoaaDoor
open Go Ab Pl
theorem open_int : Opens Tryd.prog 3 (fun n => [D.int .i64 n]) (fun n => IntKind.min .i64 ≤ n ∧ n ≤ IntKind.max .i64) := Opens.int Tryd.underlying3
theorem openV_int : OpensV Tryd.prog 3 (fun n => D.int .i64 n) (fun n => IntKind.min .i64 ≤ n ∧ n ≤ IntKind.max .i64) := Opens.one open_int (cells_int' Tryd.underlying3)
theorem open_api_Errno : Opens Tryd.prog 27 (fun n => [D.int .i64 n]) (fun n => IntKind.min .i64 ≤ n ∧ n ≤ IntKind.max .i64) := Opens.int Tryd.underlying27
theorem openV_api_Errno : OpensV Tryd.prog 27 (fun n => D.int .i64 n) (fun n => IntKind.min .i64 ≤ n ∧ n ≤ IntKind.max .i64) := Opens.one open_api_Errno (cells_int' Tryd.underlying27)
theorem open_uint8 : Opens Tryd.prog 5 (fun n => [D.int .u8 n]) (fun n => IntKind.min .u8 ≤ n ∧ n ≤ IntKind.max .u8) := Opens.int Tryd.underlying5
theorem openV_uint8 : OpensV Tryd.prog 5 (fun n => D.int .u8 n) (fun n => IntKind.min .u8 ≤ n ∧ n ≤ IntKind.max .u8) := Opens.one open_uint8 (cells_int' Tryd.underlying5)
theorem open_bool : Opens Tryd.prog 4 (fun b => [D.bool b]) (fun _ => True) := Opens.bool Tryd.underlying4
theorem openV_bool : OpensV Tryd.prog 4 (fun b => D.bool b) (fun _ => True) := Opens.one open_bool (cells_bool' Tryd.underlying4)
theorem open_string : Opens Tryd.prog 9 (fun s => [D.str s]) (fun s => s.length ≤ Go.maxLen) := Opens.str Tryd.underlying9
theorem openV_string : OpensV Tryd.prog 9 (fun s => D.str s) (fun s => s.length ≤ Go.maxLen) := Opens.one open_string (cells_str' Tryd.underlying9)
theorem open_s_int : Opens Tryd.prog 22 (fun l : List Int => [encInts l]) (fun l => l.length ≤ Go.maxLen) :=
  (Opens.slice Tryd.underlying22 (by kernel_rfl) (by decide) open_int (D.int .i64) (fun _ => rfl) (.int .i64 0) rfl).map id (fun _ => rfl) (fun _ h => h.2)
theorem openV_s_int : OpensV Tryd.prog 22 encInts (fun l => l.length ≤ Go.maxLen) := Opens.one open_s_int (cells_slice' Tryd.underlying22)
theorem open_api_Pattern : Opens Tryd.prog 24 (fun c : Pat => (encPat c).cells) (fun _ => True) :=
  (Opens.struct Tryd.underlying24 (OpensF.cons (n := 1) rfl (by kernel_rfl) open_int (fun _ => rfl) (OpensF.cons (n := 1) rfl (by kernel_rfl) open_int (fun _ => rfl) (OpensF.cons (n := 1) rfl (by kernel_rfl) open_int (fun _ => rfl) (OpensF.cons (n := 1) rfl (by kernel_rfl) open_int (fun _ => rfl) (OpensF.cons (n := 1) rfl (by kernel_rfl) open_s_int (fun _ => rfl) (OpensF.cons (n := 1) rfl (by kernel_rfl) open_s_int (fun _ => rfl) OpensF.nil)))))) (fun _ => by kernel_rfl)).map (fun p => (⟨p.1, p.2.1, p.2.2.1, p.2.2.2.1, p.2.2.2.2.1, p.2.2.2.2.2.1⟩ : Pat)) (fun _ => rfl) (fun _ _ => trivial)
theorem openV_api_Pattern : OpensV Tryd.prog 24 encPat (fun _ => True) := Opens.agg Tryd.underlying24 open_api_Pattern
theorem open_api_Issue : Opens Tryd.prog 30 (fun c : Iss => (encIss c).cells) (fun _ => True) :=
  (Opens.struct Tryd.underlying30 (OpensF.cons (n := 1) rfl (by kernel_rfl) open_int (fun _ => rfl) (OpensF.cons (n := 1) rfl (by kernel_rfl) open_int (fun _ => rfl) (OpensF.cons (n := 1) rfl (by kernel_rfl) open_int (fun _ => rfl) (OpensF.cons (n := 1) rfl (by kernel_rfl) open_int (fun _ => rfl) (OpensF.cons (n := 1) rfl (by kernel_rfl) open_int (fun _ => rfl) (OpensF.cons (n := 1) rfl (by kernel_rfl) open_int (fun _ => rfl) OpensF.nil)))))) (fun _ => by kernel_rfl)).map (fun p => (⟨p.1, p.2.1, p.2.2.1, p.2.2.2.1, p.2.2.2.2.1, p.2.2.2.2.2.1⟩ : Iss)) (fun _ => rfl) (fun _ _ => trivial)
theorem openV_api_Issue : OpensV Tryd.prog 30 encIss (fun _ => True) := Opens.agg Tryd.underlying30 open_api_Issue

end Go.Proofs.YtfaaceakmfokoaaDoor
