/-
  What the functions compute that the statement reaches: contracts, and the plain laws between them. Conditions stand at each theorem.
-/
import Derived.Test.YtfaaceakmfokoaaDoorWalkThree
set_option linter.unusedVariables false
set_option linter.unusedSimpArgs false
set_option maxRecDepth 100000
set_option linter.unusedSimpArgs false
set_option linter.unusedVariables false
namespace Go.Proofs.YtfaaceakmfokoaaDoor
open Go Ab Pl
set_option maxHeartbeats 4000000 in
theorem law36_PatternNumbers (p : Pat) : ACalls E.P 7 [encPat p] (.d (.bool true)) := by
  refine ACalls.intro E_ok Tryd.func7 rfl rfl Tryd.ntmps7 Tryd.results7 (Nat.le_of_ble_eq_true rfl) fun hok base S0 w0 => ?_
  -- region 0
  refine AWp.rseq E_ok [0, 1, 2, 3, 4, 5, 6, 7, 9, 17, 25, 63, 66, 98, 104] fun K hK => ?_
  simp [encPat_eq, encInts_eq, encIss_eq, encIsss_eq, patR_1, patR_2]
  try simp (disch := omega) only [wrap_i64]
  repeat refine ⟨by first | omega | assumption | (simp only [maxLen]; omega) | (intros; omega) | decide, ?_⟩
  refine hK _ ?_
  clear hK K
  refine AWp.seq ?_
  -- region 1
  refine AWp.rseq E_ok [0, 1, 2, 3, 4, 5, 6, 7, 9, 17, 25, 63, 66, 98, 104] fun K hK => ?_
  simp [encPat_eq, encInts_eq, encIss_eq, encIsss_eq, patR_1, patR_2]
  try simp (disch := omega) only [wrap_i64]
  repeat refine ⟨by first | omega | assumption | (simp only [maxLen]; omega) | (intros; omega) | decide, ?_⟩
  refine meet.of (law36_alive) ?_
  simp [encPat_eq, encInts_eq, encIss_eq, encIsss_eq, patR_1, patR_2]
  try simp (disch := omega) only [wrap_i64]
  repeat refine ⟨by first | omega | assumption | (simp only [maxLen]; omega) | (intros; omega) | decide, ?_⟩
  refine hK _ ?_
  clear hK K
  refine AWp.cond rfl (fun h9 => ?_) (fun h9 => ?_)
  · exact absurd h9 (by simp)
  · try simp at h9
    refine AWp.skip ?_
    repeat first | refine thenN ?_ | refine thenX ?_ | refine thenR ?_ | refine blockN ?_ | refine blockR ?_ | refine blockX ?_ | refine blockM rfl ?_
    refine AWp.seq ?_
    -- region 3
    refine AWp.rseq E_ok [0, 1, 2, 3, 4, 5, 6, 7, 9, 17, 25, 63, 66, 98, 104] fun K hK => ?_
    simp [encPat_eq, encInts_eq, encIss_eq, encIsss_eq, patR_1, patR_2, h9]
    try simp (disch := omega) only [wrap_i64]
    repeat refine ⟨by first | omega | assumption | (simp only [maxLen]; omega) | (intros; omega) | decide, ?_⟩
    refine meet.of (law36_short p) ?_
    simp [encPat_eq, encInts_eq, encIss_eq, encIsss_eq, patR_1, patR_2, h9]
    try simp (disch := omega) only [wrap_i64]
    repeat refine ⟨by first | omega | assumption | (simp only [maxLen]; omega) | (intros; omega) | decide, ?_⟩
    refine meet.of (pattern_Right p) ?_
    simp [encPat_eq, encInts_eq, encIss_eq, encIsss_eq, patR_1, patR_2, h9]
    try simp (disch := omega) only [wrap_i64]
    repeat refine ⟨by first | omega | assumption | (simp only [maxLen]; omega) | (intros; omega) | decide, ?_⟩
    refine hK _ ?_
    clear hK K
    refine AWp.cond rfl (fun h17 => ?_) (fun h17 => ?_)
    · try simp at h17
      -- region 4
      refine AWp.rseq E_ok [0, 1, 2, 3, 4, 5, 6, 7, 9, 17, 25, 63, 66, 98, 104] fun K hK => ?_
      simp [encPat_eq, encInts_eq, encIss_eq, encIsss_eq, patR_1, patR_2, h9]
      try simp (disch := omega) only [wrap_i64]
      repeat refine ⟨by first | omega | assumption | (simp only [maxLen]; omega) | (intros; omega) | decide, ?_⟩
      refine hK _ ?_
      clear hK K
      refine AWp.ret ?_
      repeat first | refine thenN ?_ | refine thenX ?_ | refine thenR ?_ | refine blockN ?_ | refine blockR ?_ | refine blockX ?_ | refine blockM rfl ?_
      simp [RetOk, RV]
    · try simp at h17
      have hok2 : PatOk p := patR_ok (by simpa using h17.2)
      obtain ⟨L, hL⟩ : ∃ L, listR p 0 200 = L := ⟨_, rfl⟩
      have hpre : L <+: allI p := by rw [← hL, list_200]; exact List.take_prefix _ _
      have hasc : L.Pairwise (fun a b => a.day < b.day) := (allI_asc hok2).sublist hpre.sublist
      have hlen : L.length ≤ 5000 := by rw [← hL]; exact list_len p 0 200
      have hper := hok2.2.2.1
      have hfst := hok2.2.2.2
      refine AWp.skip ?_
      repeat first | refine thenN ?_ | refine thenX ?_ | refine thenR ?_ | refine blockN ?_ | refine blockR ?_ | refine blockX ?_ | refine blockM rfl ?_
      -- region 5
      refine AWp.rseq E_ok [0, 1, 2, 3, 4, 5, 6, 7, 9, 17, 25, 63, 66, 98, 104] fun K hK => ?_
      simp [encPat_eq, encInts_eq, encIss_eq, encIsss_eq, patR_1, patR_2, h9, hL]
      try simp (disch := omega) only [wrap_i64]
      repeat refine ⟨by first | omega | assumption | (simp only [maxLen]; omega) | (intros; omega) | decide, ?_⟩
      refine meet.of (pattern_List p 0 200 hok2) ?_
      simp [encPat_eq, encInts_eq, encIss_eq, encIsss_eq, patR_1, patR_2, h9, hL]
      try simp (disch := omega) only [wrap_i64]
      repeat refine ⟨by first | omega | assumption | (simp only [maxLen]; omega) | (intros; omega) | decide, ?_⟩
      refine hK _ ?_
      clear hK K
      -- region 6
      refine AWp.rseq E_ok [0, 1, 2, 3, 4, 5, 6, 7, 9, 17, 25, 63, 66, 98, 104] fun K hK => ?_
      simp [encPat_eq, encInts_eq, encIss_eq, encIsss_eq, patR_1, patR_2, h9, hL]
      try simp (disch := omega) only [wrap_i64]
      repeat refine ⟨by first | omega | assumption | (simp only [maxLen]; omega) | (intros; omega) | decide, ?_⟩
      refine hK _ ?_
      clear hK K
      -- region 7
      refine AWp.rseq E_ok [0, 1, 2, 3, 4, 5, 6, 7, 9, 17, 25, 63, 66, 98, 104] fun K hK => ?_
      simp [encPat_eq, encInts_eq, encIss_eq, encIsss_eq, patR_1, patR_2, h9, hL]
      try simp (disch := omega) only [wrap_i64]
      repeat refine ⟨by first | omega | assumption | (simp only [maxLen]; omega) | (intros; omega) | decide, ?_⟩
      refine hK _ ?_
      clear hK K
      refine AWp.seq ?_
      -- region 8
      refine AWp.rseq E_ok [0, 1, 2, 3, 4, 5, 6, 7, 9, 17, 25, 63, 66, 98, 104] fun K hK => ?_
      simp [encPat_eq, encInts_eq, encIss_eq, encIsss_eq, patR_1, patR_2, h9, hL]
      try simp (disch := omega) only [wrap_i64]
      repeat refine ⟨by first | omega | assumption | (simp only [maxLen]; omega) | (intros; omega) | decide, ?_⟩
      refine hK _ ?_
      clear hK K
      refine AWp.block ?_
      refine AWp.range (l := L) (F := trF) (tot := trF (p.first, 1) L) (fun k y => match y with | (v, n) => NumI p L k v n) (fun k y => match y with | (v, n) => [(0, T.val (D.agg [D.int IntKind.i64 p.start, D.int IntKind.i64 p.every, D.int IntKind.i64 p.per, D.int IntKind.i64 p.first, (D.int IntKind.i64 0).slice (List.map (D.int IntKind.i64) p.skip), (D.int IntKind.i64 0).slice (List.map (D.int IntKind.i64) p.dbl)])), (1, T.box [C.d (D.int IntKind.i64 p.start), C.d (D.int IntKind.i64 p.every), C.d (D.int IntKind.i64 p.per), C.d (D.int IntKind.i64 p.first), C.d ((D.int IntKind.i64 0).slice (List.map (D.int IntKind.i64) p.skip)), C.d ((D.int IntKind.i64 0).slice (List.map (D.int IntKind.i64) p.dbl))]), (3, T.val ((D.agg [D.int IntKind.i64 zIss.vol, D.int IntKind.i64 zIss.num, D.int IntKind.i64 zIss.last, D.int IntKind.i64 zIss.day, D.int IntKind.i64 zIss.st, D.int IntKind.i64 zIss.item]).slice (List.map encIss L))), (4, T.val (.int .i64 v)), (5, T.val (.int .i64 n)), (6, T.val (.int .i64 k))]) (p.first, 1) ?_ rfl ?_ ?_
      · simp [Weak, TW, encPat_eq, encInts_eq, encIss_eq, encIsss_eq, patR_1, patR_2]
      · exact numI_start hok2 hpre
      rintro k ⟨v, n⟩ hk hs hi
      try simp only at hi
      refine AWp.seq ?_
      -- region 9
      refine AWp.rseq E_ok [0, 1, 2, 3, 4, 5, 6, 7, 9, 17, 25, 63, 66, 98, 104] fun K hK => ?_
      simp [encPat_eq, encInts_eq, encIss_eq, encIsss_eq, patR_1, patR_2, h9, hL]
      try simp (disch := omega) only [wrap_i64]
      repeat refine ⟨by first | omega | assumption | (simp only [maxLen]; omega) | (intros; omega) | decide, ?_⟩
      refine hK _ ?_
      clear hK K
      refine AWp.cond rfl (fun h25 => ?_) (fun h25 => ?_)
      · try simp at h25
        obtain ⟨x, hx, hxx, hd⟩ := at_indexG (l := L) h25
        rw [hd] at hs
        have hns := num_step hok2 hi hd
        have hvn := hi.2
        obtain ⟨⟨q1, q2, q3, q4, q5⟩, q6⟩ := hns
        have hge : p.start ≤ x.day := allI_ge hok2 (hpre.subset (List.mem_of_getElem? hx))
        have q7 : x.last = 0 ∨ (x.last = n + 1 ∧ n < p.per) := by rcases q6 with h | h <;> first | exact .inl h.1 | exact .inr ⟨h.1, h.2.1⟩
        refine AWp.skip ?_
        repeat first | refine thenN ?_ | refine thenX ?_ | refine thenR ?_ | refine blockN ?_ | refine blockR ?_ | refine blockX ?_ | refine blockM rfl ?_
        refine AWp.seq ?_
        refine AWp.block ?_
        -- region 11
        refine AWp.rseq E_ok [0, 1, 2, 3, 4, 5, 6, 7, 9, 17, 25, 63, 66, 98, 104] fun K hK => ?_
        simp [encPat_eq, encInts_eq, encIss_eq, encIsss_eq, patR_1, patR_2, h9, hL, h25, hx, hxx]
        try simp (disch := omega) only [wrap_i64]
        repeat refine ⟨by first | omega | assumption | (simp only [maxLen]; omega) | (intros; omega) | decide, ?_⟩
        refine hK _ ?_
        clear hK K
        refine AWp.seq ?_
        -- region 12
        refine AWp.rseq E_ok [0, 1, 2, 3, 4, 5, 6, 7, 9, 17, 25, 63, 66, 98, 104] fun K hK => ?_
        simp [encPat_eq, encInts_eq, encIss_eq, encIsss_eq, patR_1, patR_2, h9, hL, h25, hx, hxx]
        try simp (disch := omega) only [wrap_i64]
        repeat refine ⟨by first | omega | assumption | (simp only [maxLen]; omega) | (intros; omega) | decide, ?_⟩
        refine hK _ ?_
        clear hK K
        refine AWp.cond rfl (fun h63 => ?_) (fun h63 => ?_)
        · try simp at h63
          exfalso; omega
        · try simp at h63
          refine AWp.skip ?_
          repeat first | refine thenN ?_ | refine thenX ?_ | refine thenR ?_ | refine blockN ?_ | refine blockR ?_ | refine blockX ?_ | refine blockM rfl ?_
          refine AWp.seq ?_
          -- region 14
          refine AWp.rseq E_ok [0, 1, 2, 3, 4, 5, 6, 7, 9, 17, 25, 63, 66, 98, 104] fun K hK => ?_
          simp [encPat_eq, encInts_eq, encIss_eq, encIsss_eq, patR_1, patR_2, h9, hL, h25, hx, hxx]
          try simp (disch := omega) only [wrap_i64]
          repeat refine ⟨by first | omega | assumption | (simp only [maxLen]; omega) | (intros; omega) | decide, ?_⟩
          refine hK _ ?_
          clear hK K
          refine AWp.cond rfl (fun h66 => ?_) (fun h66 => ?_)
          · try simp at h66
            have hst := (q6.resolve_left (fun h => h66 h.1)).2.2
            -- region 15
            refine AWp.rend E_ok [0, 1, 2, 3, 4, 5, 6, 7, 9, 17, 25, 63, 66, 98, 104] fun K hK => ?_
            simp [encPat_eq, encInts_eq, encIss_eq, encIsss_eq, patR_1, patR_2, h9, hL, h25, hx, hxx]
            try simp (disch := omega) only [wrap_i64]
            repeat refine ⟨by first | omega | assumption | (simp only [maxLen]; omega) | (intros; omega) | decide, ?_⟩
            refine hK _ ?_
            clear hK K
            repeat first | refine thenN ?_ | refine thenX ?_ | refine thenR ?_ | refine blockN ?_ | refine blockR ?_ | refine blockX ?_ | refine blockM rfl ?_
            refine AWp.seq ?_
            rcases Nat.eq_zero_or_pos k with hk0 | hk0
            · skip
              have hw9 : IntKind.i64.wrap (-1) = -1 := by rw [wrap_i64] <;> omega
              have hz9 : (-1 : Int).toNat = 0 := rfl
              have hz7 : ∀ l : List Iss, l[(-1 : Int).toNat]? = l[0]? := fun _ => rfl
              have hx0 : L[0]? = some x := hk0 ▸ hx
              -- region 16
              refine AWp.rseqQ E_ok mixed [0, 1, 2, 3, 4, 5, 6, 7, 9, 17, 25, 63, 66, 98, 104] (by kernel_rfl) fun K hK => ?_
              simp [encPat_eq, encInts_eq, encIss_eq, encIsss_eq, patR_1, patR_2, h9, hL, h25, hx, hxx, hk0, hz9, hz7, hx0, hw9]
              try simp (disch := omega) only [wrap_i64]
              repeat refine ⟨by first | omega | assumption | (simp only [maxLen]; omega) | (intros; omega) | decide, ?_⟩
              refine hK _ ?_
              clear hK K
              refine AWp.cond rfl (fun h98 => ?_) (fun h98 => ?_)
              · try simp at h98
                exfalso; omega
              · try simp at h98
                refine AWp.skip ?_
                repeat first | refine thenN ?_ | refine thenX ?_ | refine thenR ?_ | refine blockN ?_ | refine blockR ?_ | refine blockX ?_ | refine blockM rfl ?_
                -- region 18
                refine AWp.rseq E_ok [0, 1, 2, 3, 4, 5, 6, 7, 9, 17, 25, 63, 66, 98, 104] fun K hK => ?_
                simp [encPat_eq, encInts_eq, encIss_eq, encIsss_eq, patR_1, patR_2, h9, hL, h25, hx, hxx, hk0, hz9, hz7, hx0, hw9]
                try simp (disch := omega) only [wrap_i64]
                repeat refine ⟨by first | omega | assumption | (simp only [maxLen]; omega) | (intros; omega) | decide, ?_⟩
                refine hK _ ?_
                clear hK K
                -- region 19
                refine AWp.rseq E_ok [0, 1, 2, 3, 4, 5, 6, 7, 9, 17, 25, 63, 66, 98, 104] fun K hK => ?_
                simp [encPat_eq, encInts_eq, encIss_eq, encIsss_eq, patR_1, patR_2, h9, hL, h25, hx, hxx, hk0, hz9, hz7, hx0, hw9]
                try simp (disch := omega) only [wrap_i64]
                repeat refine ⟨by first | omega | assumption | (simp only [maxLen]; omega) | (intros; omega) | decide, ?_⟩
                refine hK _ ?_
                clear hK K
                refine AWp.cond rfl (fun h104 => ?_) (fun h104 => ?_)
                · try simp at h104
                  first | rw [show volN p v (n + 2) = v + 1 from if_pos (by omega), show numN p (n + 2) = 1 from if_pos (by omega)] at hst | rw [show volN p v (n + 1) = v + 1 from if_pos (by omega), show numN p (n + 1) = 1 from if_pos (by omega)] at hst
                  replace hs : trF (v + 1, 1) (List.drop (k + 1) L) = true := rfl
                  -- region 20
                  refine AWp.rseq E_ok [0, 1, 2, 3, 4, 5, 6, 7, 9, 17, 25, 63, 66, 98, 104] fun K hK => ?_
                  simp [encPat_eq, encInts_eq, encIss_eq, encIsss_eq, patR_1, patR_2, h9, hL, h25, hx, hxx, hk0, hz9, hz7, hx0, hw9]
                  try simp (disch := omega) only [wrap_i64]
                  repeat refine ⟨by first | omega | assumption | (simp only [maxLen]; omega) | (intros; omega) | decide, ?_⟩
                  refine hK _ ?_
                  clear hK K
                  -- region 21
                  refine AWp.rend E_ok [0, 1, 2, 3, 4, 5, 6, 7, 9, 17, 25, 63, 66, 98, 104] fun K hK => ?_
                  simp [encPat_eq, encInts_eq, encIss_eq, encIsss_eq, patR_1, patR_2, h9, hL, h25, hx, hxx, hk0, hz9, hz7, hx0, hw9]
                  try simp (disch := omega) only [wrap_i64]
                  repeat refine ⟨by first | omega | assumption | (simp only [maxLen]; omega) | (intros; omega) | decide, ?_⟩
                  refine hK _ ?_
                  clear hK K
                  repeat first | refine thenN ?_ | refine thenX ?_ | refine thenR ?_ | refine blockN ?_ | refine blockR ?_ | refine blockX ?_ | refine blockM rfl ?_
                  -- region 10
                  refine AWp.rend E_ok [0, 1, 2, 3, 4, 5, 6, 7, 9, 17, 25, 63, 66, 98, 104] fun K hK => ?_
                  simp [encPat_eq, encInts_eq, encIss_eq, encIsss_eq, patR_1, patR_2, h9, hL, h25, hx, hxx, hk0, hz9, hz7, hx0, hw9]
                  try simp (disch := omega) only [wrap_i64]
                  repeat refine ⟨by first | omega | assumption | (simp only [maxLen]; omega) | (intros; omega) | decide, ?_⟩
                  refine hK _ ?_
                  clear hK K
                  repeat first | refine thenN ?_ | refine thenX ?_ | refine thenR ?_ | refine blockN ?_ | refine blockR ?_ | refine blockX ?_ | refine blockM rfl ?_
                  have hw : IntKind.i64.wrap ((k : Int) + 1) = (k : Int) + 1 := by rw [wrap_i64] <;> omega
                  skip
                  refine ⟨_, h25, hs, ?_, ?_⟩
                  · exact hst
                  · simp [Weak, TW, hw, encPat_eq, encInts_eq, encIss_eq, encIsss_eq, patR_1, patR_2] <;> omega
                · try simp at h104
                  first | rw [show volN p v (n + 2) = v from if_neg (by omega), show numN p (n + 2) = n + 1 + 1 by unfold numN; rw [if_neg (by omega)]; omega] at hst | rw [show volN p v (n + 1) = v from if_neg (by omega), show numN p (n + 1) = n + 1 from if_neg (by omega)] at hst
                  first | (have q8 : x.last = 0 := (by assumption); replace hs : trF (v, n + 1) (List.drop (k + 1) L) = true := rfl) | replace hs : trF (v, n + 1 + 1) (List.drop (k + 1) L) = true := rfl
                  refine AWp.skip ?_
                  repeat first | refine thenN ?_ | refine thenX ?_ | refine thenR ?_ | refine blockN ?_ | refine blockR ?_ | refine blockX ?_ | refine blockM rfl ?_
                  -- region 10
                  refine AWp.rend E_ok [0, 1, 2, 3, 4, 5, 6, 7, 9, 17, 25, 63, 66, 98, 104] fun K hK => ?_
                  simp [encPat_eq, encInts_eq, encIss_eq, encIsss_eq, patR_1, patR_2, h9, hL, h25, hx, hxx, hk0, hz9, hz7, hx0, hw9]
                  try simp (disch := omega) only [wrap_i64]
                  repeat refine ⟨by first | omega | assumption | (simp only [maxLen]; omega) | (intros; omega) | decide, ?_⟩
                  refine hK _ ?_
                  clear hK K
                  repeat first | refine thenN ?_ | refine thenX ?_ | refine thenR ?_ | refine blockN ?_ | refine blockR ?_ | refine blockX ?_ | refine blockM rfl ?_
                  have hw : IntKind.i64.wrap ((k : Int) + 1) = (k : Int) + 1 := by rw [wrap_i64] <;> omega
                  skip
                  refine ⟨_, h25, hs, ?_, ?_⟩
                  · exact hst
                  · simp [Weak, TW, hw, encPat_eq, encInts_eq, encIss_eq, encIsss_eq, patR_1, patR_2] <;> omega
            · skip
              obtain ⟨j, hkj⟩ : ∃ j, k = j + 1 := ⟨k - 1, by omega⟩
              obtain ⟨y, hy1, hy2, _⟩ := at_indexG (l := L) (k := j) (by omega)
              have hjw : IntKind.i64.wrap (j : Int) = (j : Int) := by rw [wrap_i64] <;> omega
              have hj0 : IntKind.i64.wrap ((k : Int) - 1) = (j : Int) := by rw [wrap_i64] <;> omega
              have hj1 : j < L.length := by omega
              have hylt := pair_lt hasc hy1 (hkj ▸ hx)
              have hk1 : 0 < k := hk0
              -- region 16
              refine AWp.rseqQ E_ok mixed [0, 1, 2, 3, 4, 5, 6, 7, 9, 17, 25, 63, 66, 98, 104] (by kernel_rfl) fun K hK => ?_
              simp [encPat_eq, encInts_eq, encIss_eq, encIsss_eq, patR_1, patR_2, h9, hL, h25, hx, hxx, hj0, hjw, hy1, hy2, hj1, hkj, hk1]
              try simp (disch := omega) only [wrap_i64]
              repeat refine ⟨by first | omega | assumption | (simp only [maxLen]; omega) | (intros; omega) | decide, ?_⟩
              refine hK _ ?_
              clear hK K
              refine AWp.cond rfl (fun h98 => ?_) (fun h98 => ?_)
              · try simp at h98
                exfalso; omega
              · try simp at h98
                refine AWp.skip ?_
                repeat first | refine thenN ?_ | refine thenX ?_ | refine thenR ?_ | refine blockN ?_ | refine blockR ?_ | refine blockX ?_ | refine blockM rfl ?_
                -- region 18
                refine AWp.rseq E_ok [0, 1, 2, 3, 4, 5, 6, 7, 9, 17, 25, 63, 66, 98, 104] fun K hK => ?_
                simp [encPat_eq, encInts_eq, encIss_eq, encIsss_eq, patR_1, patR_2, h9, hL, h25, hx, hxx, hj0, hjw, hy1, hy2, hj1, hkj, hk1]
                try simp (disch := omega) only [wrap_i64]
                repeat refine ⟨by first | omega | assumption | (simp only [maxLen]; omega) | (intros; omega) | decide, ?_⟩
                refine hK _ ?_
                clear hK K
                -- region 19
                refine AWp.rseq E_ok [0, 1, 2, 3, 4, 5, 6, 7, 9, 17, 25, 63, 66, 98, 104] fun K hK => ?_
                simp [encPat_eq, encInts_eq, encIss_eq, encIsss_eq, patR_1, patR_2, h9, hL, h25, hx, hxx, hj0, hjw, hy1, hy2, hj1, hkj, hk1]
                try simp (disch := omega) only [wrap_i64]
                repeat refine ⟨by first | omega | assumption | (simp only [maxLen]; omega) | (intros; omega) | decide, ?_⟩
                refine hK _ ?_
                clear hK K
                refine AWp.cond rfl (fun h104 => ?_) (fun h104 => ?_)
                · try simp at h104
                  first | rw [show volN p v (n + 2) = v + 1 from if_pos (by omega), show numN p (n + 2) = 1 from if_pos (by omega)] at hst | rw [show volN p v (n + 1) = v + 1 from if_pos (by omega), show numN p (n + 1) = 1 from if_pos (by omega)] at hst
                  replace hs : trF (v + 1, 1) (List.drop (k + 1) L) = true := rfl
                  -- region 20
                  refine AWp.rseq E_ok [0, 1, 2, 3, 4, 5, 6, 7, 9, 17, 25, 63, 66, 98, 104] fun K hK => ?_
                  simp [encPat_eq, encInts_eq, encIss_eq, encIsss_eq, patR_1, patR_2, h9, hL, h25, hx, hxx, hj0, hjw, hy1, hy2, hj1, hkj, hk1]
                  try simp (disch := omega) only [wrap_i64]
                  repeat refine ⟨by first | omega | assumption | (simp only [maxLen]; omega) | (intros; omega) | decide, ?_⟩
                  refine hK _ ?_
                  clear hK K
                  -- region 21
                  refine AWp.rend E_ok [0, 1, 2, 3, 4, 5, 6, 7, 9, 17, 25, 63, 66, 98, 104] fun K hK => ?_
                  simp [encPat_eq, encInts_eq, encIss_eq, encIsss_eq, patR_1, patR_2, h9, hL, h25, hx, hxx, hj0, hjw, hy1, hy2, hj1, hkj, hk1]
                  try simp (disch := omega) only [wrap_i64]
                  repeat refine ⟨by first | omega | assumption | (simp only [maxLen]; omega) | (intros; omega) | decide, ?_⟩
                  refine hK _ ?_
                  clear hK K
                  repeat first | refine thenN ?_ | refine thenX ?_ | refine thenR ?_ | refine blockN ?_ | refine blockR ?_ | refine blockX ?_ | refine blockM rfl ?_
                  -- region 10
                  refine AWp.rend E_ok [0, 1, 2, 3, 4, 5, 6, 7, 9, 17, 25, 63, 66, 98, 104] fun K hK => ?_
                  simp [encPat_eq, encInts_eq, encIss_eq, encIsss_eq, patR_1, patR_2, h9, hL, h25, hx, hxx, hj0, hjw, hy1, hy2, hj1, hkj, hk1]
                  try simp (disch := omega) only [wrap_i64]
                  repeat refine ⟨by first | omega | assumption | (simp only [maxLen]; omega) | (intros; omega) | decide, ?_⟩
                  refine hK _ ?_
                  clear hK K
                  repeat first | refine thenN ?_ | refine thenX ?_ | refine thenR ?_ | refine blockN ?_ | refine blockR ?_ | refine blockX ?_ | refine blockM rfl ?_
                  have hw : IntKind.i64.wrap ((k : Int) + 1) = (k : Int) + 1 := by rw [wrap_i64] <;> omega
                  skip
                  refine ⟨_, h25, hs, ?_, ?_⟩
                  · exact hst
                  · simp [Weak, TW, hw, encPat_eq, encInts_eq, encIss_eq, encIsss_eq, patR_1, patR_2] <;> omega
                · try simp at h104
                  first | rw [show volN p v (n + 2) = v from if_neg (by omega), show numN p (n + 2) = n + 1 + 1 by unfold numN; rw [if_neg (by omega)]; omega] at hst | rw [show volN p v (n + 1) = v from if_neg (by omega), show numN p (n + 1) = n + 1 from if_neg (by omega)] at hst
                  first | (have q8 : x.last = 0 := (by assumption); replace hs : trF (v, n + 1) (List.drop (k + 1) L) = true := rfl) | replace hs : trF (v, n + 1 + 1) (List.drop (k + 1) L) = true := rfl
                  refine AWp.skip ?_
                  repeat first | refine thenN ?_ | refine thenX ?_ | refine thenR ?_ | refine blockN ?_ | refine blockR ?_ | refine blockX ?_ | refine blockM rfl ?_
                  -- region 10
                  refine AWp.rend E_ok [0, 1, 2, 3, 4, 5, 6, 7, 9, 17, 25, 63, 66, 98, 104] fun K hK => ?_
                  simp [encPat_eq, encInts_eq, encIss_eq, encIsss_eq, patR_1, patR_2, h9, hL, h25, hx, hxx, hj0, hjw, hy1, hy2, hj1, hkj, hk1]
                  try simp (disch := omega) only [wrap_i64]
                  repeat refine ⟨by first | omega | assumption | (simp only [maxLen]; omega) | (intros; omega) | decide, ?_⟩
                  refine hK _ ?_
                  clear hK K
                  repeat first | refine thenN ?_ | refine thenX ?_ | refine thenR ?_ | refine blockN ?_ | refine blockR ?_ | refine blockX ?_ | refine blockM rfl ?_
                  have hw : IntKind.i64.wrap ((k : Int) + 1) = (k : Int) + 1 := by rw [wrap_i64] <;> omega
                  skip
                  refine ⟨_, h25, hs, ?_, ?_⟩
                  · exact hst
                  · simp [Weak, TW, hw, encPat_eq, encInts_eq, encIss_eq, encIsss_eq, patR_1, patR_2] <;> omega
          · try simp at h66
            have hst := (q6.resolve_right (fun h => by have := h.1; omega)).2
            refine AWp.skip ?_
            repeat first | refine thenN ?_ | refine thenX ?_ | refine thenR ?_ | refine blockN ?_ | refine blockR ?_ | refine blockX ?_ | refine blockM rfl ?_
            refine AWp.seq ?_
            rcases Nat.eq_zero_or_pos k with hk0 | hk0
            · skip
              have hw9 : IntKind.i64.wrap (-1) = -1 := by rw [wrap_i64] <;> omega
              have hz9 : (-1 : Int).toNat = 0 := rfl
              have hz7 : ∀ l : List Iss, l[(-1 : Int).toNat]? = l[0]? := fun _ => rfl
              have hx0 : L[0]? = some x := hk0 ▸ hx
              -- region 16
              refine AWp.rseqQ E_ok mixed [0, 1, 2, 3, 4, 5, 6, 7, 9, 17, 25, 63, 66, 98, 104] (by kernel_rfl) fun K hK => ?_
              simp [encPat_eq, encInts_eq, encIss_eq, encIsss_eq, patR_1, patR_2, h9, hL, h25, hx, hxx, hk0, hz9, hz7, hx0, hw9]
              try simp (disch := omega) only [wrap_i64]
              repeat refine ⟨by first | omega | assumption | (simp only [maxLen]; omega) | (intros; omega) | decide, ?_⟩
              refine hK _ ?_
              clear hK K
              refine AWp.cond rfl (fun h98 => ?_) (fun h98 => ?_)
              · try simp at h98
                exfalso; omega
              · try simp at h98
                refine AWp.skip ?_
                repeat first | refine thenN ?_ | refine thenX ?_ | refine thenR ?_ | refine blockN ?_ | refine blockR ?_ | refine blockX ?_ | refine blockM rfl ?_
                -- region 18
                refine AWp.rseq E_ok [0, 1, 2, 3, 4, 5, 6, 7, 9, 17, 25, 63, 66, 98, 104] fun K hK => ?_
                simp [encPat_eq, encInts_eq, encIss_eq, encIsss_eq, patR_1, patR_2, h9, hL, h25, hx, hxx, hk0, hz9, hz7, hx0, hw9]
                try simp (disch := omega) only [wrap_i64]
                repeat refine ⟨by first | omega | assumption | (simp only [maxLen]; omega) | (intros; omega) | decide, ?_⟩
                refine hK _ ?_
                clear hK K
                -- region 19
                refine AWp.rseq E_ok [0, 1, 2, 3, 4, 5, 6, 7, 9, 17, 25, 63, 66, 98, 104] fun K hK => ?_
                simp [encPat_eq, encInts_eq, encIss_eq, encIsss_eq, patR_1, patR_2, h9, hL, h25, hx, hxx, hk0, hz9, hz7, hx0, hw9]
                try simp (disch := omega) only [wrap_i64]
                repeat refine ⟨by first | omega | assumption | (simp only [maxLen]; omega) | (intros; omega) | decide, ?_⟩
                refine hK _ ?_
                clear hK K
                refine AWp.cond rfl (fun h104 => ?_) (fun h104 => ?_)
                · try simp at h104
                  first | rw [show volN p v (n + 2) = v + 1 from if_pos (by omega), show numN p (n + 2) = 1 from if_pos (by omega)] at hst | rw [show volN p v (n + 1) = v + 1 from if_pos (by omega), show numN p (n + 1) = 1 from if_pos (by omega)] at hst
                  replace hs : trF (v + 1, 1) (List.drop (k + 1) L) = true := rfl
                  -- region 20
                  refine AWp.rseq E_ok [0, 1, 2, 3, 4, 5, 6, 7, 9, 17, 25, 63, 66, 98, 104] fun K hK => ?_
                  simp [encPat_eq, encInts_eq, encIss_eq, encIsss_eq, patR_1, patR_2, h9, hL, h25, hx, hxx, hk0, hz9, hz7, hx0, hw9]
                  try simp (disch := omega) only [wrap_i64]
                  repeat refine ⟨by first | omega | assumption | (simp only [maxLen]; omega) | (intros; omega) | decide, ?_⟩
                  refine hK _ ?_
                  clear hK K
                  -- region 21
                  refine AWp.rend E_ok [0, 1, 2, 3, 4, 5, 6, 7, 9, 17, 25, 63, 66, 98, 104] fun K hK => ?_
                  simp [encPat_eq, encInts_eq, encIss_eq, encIsss_eq, patR_1, patR_2, h9, hL, h25, hx, hxx, hk0, hz9, hz7, hx0, hw9]
                  try simp (disch := omega) only [wrap_i64]
                  repeat refine ⟨by first | omega | assumption | (simp only [maxLen]; omega) | (intros; omega) | decide, ?_⟩
                  refine hK _ ?_
                  clear hK K
                  repeat first | refine thenN ?_ | refine thenX ?_ | refine thenR ?_ | refine blockN ?_ | refine blockR ?_ | refine blockX ?_ | refine blockM rfl ?_
                  -- region 10
                  refine AWp.rend E_ok [0, 1, 2, 3, 4, 5, 6, 7, 9, 17, 25, 63, 66, 98, 104] fun K hK => ?_
                  simp [encPat_eq, encInts_eq, encIss_eq, encIsss_eq, patR_1, patR_2, h9, hL, h25, hx, hxx, hk0, hz9, hz7, hx0, hw9]
                  try simp (disch := omega) only [wrap_i64]
                  repeat refine ⟨by first | omega | assumption | (simp only [maxLen]; omega) | (intros; omega) | decide, ?_⟩
                  refine hK _ ?_
                  clear hK K
                  repeat first | refine thenN ?_ | refine thenX ?_ | refine thenR ?_ | refine blockN ?_ | refine blockR ?_ | refine blockX ?_ | refine blockM rfl ?_
                  have hw : IntKind.i64.wrap ((k : Int) + 1) = (k : Int) + 1 := by rw [wrap_i64] <;> omega
                  skip
                  refine ⟨_, h25, hs, ?_, ?_⟩
                  · exact hst
                  · simp [Weak, TW, hw, encPat_eq, encInts_eq, encIss_eq, encIsss_eq, patR_1, patR_2] <;> omega
                · try simp at h104
                  first | rw [show volN p v (n + 2) = v from if_neg (by omega), show numN p (n + 2) = n + 1 + 1 by unfold numN; rw [if_neg (by omega)]; omega] at hst | rw [show volN p v (n + 1) = v from if_neg (by omega), show numN p (n + 1) = n + 1 from if_neg (by omega)] at hst
                  first | (have q8 : x.last = 0 := (by assumption); replace hs : trF (v, n + 1) (List.drop (k + 1) L) = true := rfl) | replace hs : trF (v, n + 1 + 1) (List.drop (k + 1) L) = true := rfl
                  refine AWp.skip ?_
                  repeat first | refine thenN ?_ | refine thenX ?_ | refine thenR ?_ | refine blockN ?_ | refine blockR ?_ | refine blockX ?_ | refine blockM rfl ?_
                  -- region 10
                  refine AWp.rend E_ok [0, 1, 2, 3, 4, 5, 6, 7, 9, 17, 25, 63, 66, 98, 104] fun K hK => ?_
                  simp [encPat_eq, encInts_eq, encIss_eq, encIsss_eq, patR_1, patR_2, h9, hL, h25, hx, hxx, hk0, hz9, hz7, hx0, hw9]
                  try simp (disch := omega) only [wrap_i64]
                  repeat refine ⟨by first | omega | assumption | (simp only [maxLen]; omega) | (intros; omega) | decide, ?_⟩
                  refine hK _ ?_
                  clear hK K
                  repeat first | refine thenN ?_ | refine thenX ?_ | refine thenR ?_ | refine blockN ?_ | refine blockR ?_ | refine blockX ?_ | refine blockM rfl ?_
                  have hw : IntKind.i64.wrap ((k : Int) + 1) = (k : Int) + 1 := by rw [wrap_i64] <;> omega
                  skip
                  refine ⟨_, h25, hs, ?_, ?_⟩
                  · exact hst
                  · simp [Weak, TW, hw, encPat_eq, encInts_eq, encIss_eq, encIsss_eq, patR_1, patR_2] <;> omega
            · skip
              obtain ⟨j, hkj⟩ : ∃ j, k = j + 1 := ⟨k - 1, by omega⟩
              obtain ⟨y, hy1, hy2, _⟩ := at_indexG (l := L) (k := j) (by omega)
              have hjw : IntKind.i64.wrap (j : Int) = (j : Int) := by rw [wrap_i64] <;> omega
              have hj0 : IntKind.i64.wrap ((k : Int) - 1) = (j : Int) := by rw [wrap_i64] <;> omega
              have hj1 : j < L.length := by omega
              have hylt := pair_lt hasc hy1 (hkj ▸ hx)
              have hk1 : 0 < k := hk0
              -- region 16
              refine AWp.rseqQ E_ok mixed [0, 1, 2, 3, 4, 5, 6, 7, 9, 17, 25, 63, 66, 98, 104] (by kernel_rfl) fun K hK => ?_
              simp [encPat_eq, encInts_eq, encIss_eq, encIsss_eq, patR_1, patR_2, h9, hL, h25, hx, hxx, hj0, hjw, hy1, hy2, hj1, hkj, hk1]
              try simp (disch := omega) only [wrap_i64]
              repeat refine ⟨by first | omega | assumption | (simp only [maxLen]; omega) | (intros; omega) | decide, ?_⟩
              refine hK _ ?_
              clear hK K
              refine AWp.cond rfl (fun h98 => ?_) (fun h98 => ?_)
              · try simp at h98
                exfalso; omega
              · try simp at h98
                refine AWp.skip ?_
                repeat first | refine thenN ?_ | refine thenX ?_ | refine thenR ?_ | refine blockN ?_ | refine blockR ?_ | refine blockX ?_ | refine blockM rfl ?_
                -- region 18
                refine AWp.rseq E_ok [0, 1, 2, 3, 4, 5, 6, 7, 9, 17, 25, 63, 66, 98, 104] fun K hK => ?_
                simp [encPat_eq, encInts_eq, encIss_eq, encIsss_eq, patR_1, patR_2, h9, hL, h25, hx, hxx, hj0, hjw, hy1, hy2, hj1, hkj, hk1]
                try simp (disch := omega) only [wrap_i64]
                repeat refine ⟨by first | omega | assumption | (simp only [maxLen]; omega) | (intros; omega) | decide, ?_⟩
                refine hK _ ?_
                clear hK K
                -- region 19
                refine AWp.rseq E_ok [0, 1, 2, 3, 4, 5, 6, 7, 9, 17, 25, 63, 66, 98, 104] fun K hK => ?_
                simp [encPat_eq, encInts_eq, encIss_eq, encIsss_eq, patR_1, patR_2, h9, hL, h25, hx, hxx, hj0, hjw, hy1, hy2, hj1, hkj, hk1]
                try simp (disch := omega) only [wrap_i64]
                repeat refine ⟨by first | omega | assumption | (simp only [maxLen]; omega) | (intros; omega) | decide, ?_⟩
                refine hK _ ?_
                clear hK K
                refine AWp.cond rfl (fun h104 => ?_) (fun h104 => ?_)
                · try simp at h104
                  first | rw [show volN p v (n + 2) = v + 1 from if_pos (by omega), show numN p (n + 2) = 1 from if_pos (by omega)] at hst | rw [show volN p v (n + 1) = v + 1 from if_pos (by omega), show numN p (n + 1) = 1 from if_pos (by omega)] at hst
                  replace hs : trF (v + 1, 1) (List.drop (k + 1) L) = true := rfl
                  -- region 20
                  refine AWp.rseq E_ok [0, 1, 2, 3, 4, 5, 6, 7, 9, 17, 25, 63, 66, 98, 104] fun K hK => ?_
                  simp [encPat_eq, encInts_eq, encIss_eq, encIsss_eq, patR_1, patR_2, h9, hL, h25, hx, hxx, hj0, hjw, hy1, hy2, hj1, hkj, hk1]
                  try simp (disch := omega) only [wrap_i64]
                  repeat refine ⟨by first | omega | assumption | (simp only [maxLen]; omega) | (intros; omega) | decide, ?_⟩
                  refine hK _ ?_
                  clear hK K
                  -- region 21
                  refine AWp.rend E_ok [0, 1, 2, 3, 4, 5, 6, 7, 9, 17, 25, 63, 66, 98, 104] fun K hK => ?_
                  simp [encPat_eq, encInts_eq, encIss_eq, encIsss_eq, patR_1, patR_2, h9, hL, h25, hx, hxx, hj0, hjw, hy1, hy2, hj1, hkj, hk1]
                  try simp (disch := omega) only [wrap_i64]
                  repeat refine ⟨by first | omega | assumption | (simp only [maxLen]; omega) | (intros; omega) | decide, ?_⟩
                  refine hK _ ?_
                  clear hK K
                  repeat first | refine thenN ?_ | refine thenX ?_ | refine thenR ?_ | refine blockN ?_ | refine blockR ?_ | refine blockX ?_ | refine blockM rfl ?_
                  -- region 10
                  refine AWp.rend E_ok [0, 1, 2, 3, 4, 5, 6, 7, 9, 17, 25, 63, 66, 98, 104] fun K hK => ?_
                  simp [encPat_eq, encInts_eq, encIss_eq, encIsss_eq, patR_1, patR_2, h9, hL, h25, hx, hxx, hj0, hjw, hy1, hy2, hj1, hkj, hk1]
                  try simp (disch := omega) only [wrap_i64]
                  repeat refine ⟨by first | omega | assumption | (simp only [maxLen]; omega) | (intros; omega) | decide, ?_⟩
                  refine hK _ ?_
                  clear hK K
                  repeat first | refine thenN ?_ | refine thenX ?_ | refine thenR ?_ | refine blockN ?_ | refine blockR ?_ | refine blockX ?_ | refine blockM rfl ?_
                  have hw : IntKind.i64.wrap ((k : Int) + 1) = (k : Int) + 1 := by rw [wrap_i64] <;> omega
                  skip
                  refine ⟨_, h25, hs, ?_, ?_⟩
                  · exact hst
                  · simp [Weak, TW, hw, encPat_eq, encInts_eq, encIss_eq, encIsss_eq, patR_1, patR_2] <;> omega
                · try simp at h104
                  first | rw [show volN p v (n + 2) = v from if_neg (by omega), show numN p (n + 2) = n + 1 + 1 by unfold numN; rw [if_neg (by omega)]; omega] at hst | rw [show volN p v (n + 1) = v from if_neg (by omega), show numN p (n + 1) = n + 1 from if_neg (by omega)] at hst
                  first | (have q8 : x.last = 0 := (by assumption); replace hs : trF (v, n + 1) (List.drop (k + 1) L) = true := rfl) | replace hs : trF (v, n + 1 + 1) (List.drop (k + 1) L) = true := rfl
                  refine AWp.skip ?_
                  repeat first | refine thenN ?_ | refine thenX ?_ | refine thenR ?_ | refine blockN ?_ | refine blockR ?_ | refine blockX ?_ | refine blockM rfl ?_
                  -- region 10
                  refine AWp.rend E_ok [0, 1, 2, 3, 4, 5, 6, 7, 9, 17, 25, 63, 66, 98, 104] fun K hK => ?_
                  simp [encPat_eq, encInts_eq, encIss_eq, encIsss_eq, patR_1, patR_2, h9, hL, h25, hx, hxx, hj0, hjw, hy1, hy2, hj1, hkj, hk1]
                  try simp (disch := omega) only [wrap_i64]
                  repeat refine ⟨by first | omega | assumption | (simp only [maxLen]; omega) | (intros; omega) | decide, ?_⟩
                  refine hK _ ?_
                  clear hK K
                  repeat first | refine thenN ?_ | refine thenX ?_ | refine thenR ?_ | refine blockN ?_ | refine blockR ?_ | refine blockX ?_ | refine blockM rfl ?_
                  have hw : IntKind.i64.wrap ((k : Int) + 1) = (k : Int) + 1 := by rw [wrap_i64] <;> omega
                  skip
                  refine ⟨_, h25, hs, ?_, ?_⟩
                  · exact hst
                  · simp [Weak, TW, hw, encPat_eq, encInts_eq, encIss_eq, encIsss_eq, patR_1, patR_2] <;> omega
      · try simp at h25
        obtain rfl : k = L.length := by omega
        refine AWp.exit ?_
        repeat first | refine thenN ?_ | refine thenX ?_ | refine thenR ?_ | refine blockN ?_ | refine blockR ?_ | refine blockX ?_ | refine blockM rfl ?_
        -- region 22
        refine AWp.rseq E_ok [0, 1, 2, 3, 4, 5, 6, 7, 9, 17, 25, 63, 66, 98, 104] fun K hK => ?_
        simp [encPat_eq, encInts_eq, encIss_eq, encIsss_eq, patR_1, patR_2, h9, hL, h25]
        try simp (disch := omega) only [wrap_i64]
        repeat refine ⟨by first | omega | assumption | (simp only [maxLen]; omega) | (intros; omega) | decide, ?_⟩
        refine hK _ ?_
        clear hK K
        refine AWp.ret ?_
        repeat first | refine thenN ?_ | refine thenX ?_ | refine thenR ?_ | refine blockN ?_ | refine blockR ?_ | refine blockX ?_ | refine blockM rfl ?_
        simp [RetOk, RV]
end Go.Proofs.YtfaaceakmfokoaaDoor

set_option maxRecDepth 100000
set_option linter.unusedSimpArgs false
set_option linter.unusedVariables false
namespace Pl
end Pl
namespace Go.Proofs.YtfaaceakmfokoaaDoor
open Go Ab Pl
theorem open_int : Opens Tryd.prog 3 (fun n => [D.int .i64 n]) (fun n => IntKind.min .i64 ≤ n ∧ n ≤ IntKind.max .i64) := Opens.int Tryd.underlying3
theorem openV_int : OpensV Tryd.prog 3 (fun n => D.int .i64 n) (fun n => IntKind.min .i64 ≤ n ∧ n ≤ IntKind.max .i64) := Opens.one open_int (cells_int' Tryd.underlying3)
theorem open_api_Errno : Opens Tryd.prog 27 (fun n => [D.int .i64 n]) (fun n => IntKind.min .i64 ≤ n ∧ n ≤ IntKind.max .i64) := Opens.int Tryd.underlying27
theorem openV_api_Errno : OpensV Tryd.prog 27 (fun n => D.int .i64 n) (fun n => IntKind.min .i64 ≤ n ∧ n ≤ IntKind.max .i64) := Opens.one open_api_Errno (cells_int' Tryd.underlying27)
theorem open_uint8 : Opens Tryd.prog 5 (fun n => [D.int .u8 n]) (fun n => IntKind.min .u8 ≤ n ∧ n ≤ IntKind.max .u8) := Opens.int Tryd.underlying5
theorem openV_uint8 : OpensV Tryd.prog 5 (fun n => D.int .u8 n) (fun n => IntKind.min .u8 ≤ n ∧ n ≤ IntKind.max .u8) := Opens.one open_uint8 (cells_int' Tryd.underlying5)
theorem open_bool : Opens Tryd.prog 4 (fun b => [D.bool b]) (fun _ => True) := Opens.bool Tryd.underlying4
theorem openV_bool : OpensV Tryd.prog 4 (fun b => D.bool b) (fun _ => True) := Opens.one open_bool (cells_bool' Tryd.underlying4)
theorem open_string : Opens Tryd.prog 9 (fun s => [D.str s]) (fun s => s.length ≤ Go.maxLen) := Opens.str Tryd.underlying9
theorem openV_string : OpensV Tryd.prog 9 (fun s => D.str s) (fun s => s.length ≤ Go.maxLen) := Opens.one open_string (cells_str' Tryd.underlying9)
theorem open_s_int : Opens Tryd.prog 22 (fun l : List Int => [encInts l]) (fun l => l.length ≤ Go.maxLen) :=
  (Opens.slice Tryd.underlying22 (by kernel_rfl) (by decide) open_int (D.int .i64) (fun _ => rfl) (.int .i64 0) rfl).map id (fun _ => rfl) (fun _ h => h.2)
theorem openV_s_int : OpensV Tryd.prog 22 encInts (fun l => l.length ≤ Go.maxLen) := Opens.one open_s_int (cells_slice' Tryd.underlying22)
theorem open_api_Pattern : Opens Tryd.prog 24 (fun c : Pat => (encPat c).cells) (fun _ => True) :=
  (Opens.struct Tryd.underlying24 (OpensF.cons (n := 1) rfl (by kernel_rfl) open_int (fun _ => rfl) (OpensF.cons (n := 1) rfl (by kernel_rfl) open_int (fun _ => rfl) (OpensF.cons (n := 1) rfl (by kernel_rfl) open_int (fun _ => rfl) (OpensF.cons (n := 1) rfl (by kernel_rfl) open_int (fun _ => rfl) (OpensF.cons (n := 1) rfl (by kernel_rfl) open_s_int (fun _ => rfl) (OpensF.cons (n := 1) rfl (by kernel_rfl) open_s_int (fun _ => rfl) OpensF.nil)))))) (fun _ => by kernel_rfl)).map (fun p => (⟨p.1, p.2.1, p.2.2.1, p.2.2.2.1, p.2.2.2.2.1, p.2.2.2.2.2.1⟩ : Pat)) (fun _ => rfl) (fun _ _ => trivial)
theorem openV_api_Pattern : OpensV Tryd.prog 24 encPat (fun _ => True) := Opens.agg Tryd.underlying24 open_api_Pattern
theorem open_api_Issue : Opens Tryd.prog 30 (fun c : Iss => (encIss c).cells) (fun _ => True) :=
  (Opens.struct Tryd.underlying30 (OpensF.cons (n := 1) rfl (by kernel_rfl) open_int (fun _ => rfl) (OpensF.cons (n := 1) rfl (by kernel_rfl) open_int (fun _ => rfl) (OpensF.cons (n := 1) rfl (by kernel_rfl) open_int (fun _ => rfl) (OpensF.cons (n := 1) rfl (by kernel_rfl) open_int (fun _ => rfl) (OpensF.cons (n := 1) rfl (by kernel_rfl) open_int (fun _ => rfl) (OpensF.cons (n := 1) rfl (by kernel_rfl) open_int (fun _ => rfl) OpensF.nil)))))) (fun _ => by kernel_rfl)).map (fun p => (⟨p.1, p.2.1, p.2.2.1, p.2.2.2.1, p.2.2.2.2.1, p.2.2.2.2.2.1⟩ : Iss)) (fun _ => rfl) (fun _ _ => trivial)
theorem openV_api_Issue : OpensV Tryd.prog 30 encIss (fun _ => True) := Opens.agg Tryd.underlying30 open_api_Issue

end Go.Proofs.YtfaaceakmfokoaaDoor
