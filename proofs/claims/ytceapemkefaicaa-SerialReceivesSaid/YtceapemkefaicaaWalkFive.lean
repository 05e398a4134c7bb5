/-
  What the functions compute that the statement reaches: contracts, and the plain laws between them. Conditions stand at each theorem.
-/
import Derived.Test.YtceapemkefaicaaWalkFour
set_option linter.unusedVariables false
set_option linter.unusedSimpArgs false
set_option maxRecDepth 100000
set_option linter.unusedSimpArgs false
set_option linter.unusedVariables false
namespace Go.Proofs.Ytceapemkefaicaa
open Go Ab Pl
set_option maxHeartbeats 4000000 in
theorem serial_Receive (s : Ser) (v n it : Int) (hl : s.iss.length ≤ 1000) : ACalls E.P 24 [encSer s, .int .i64 v, .int .i64 n, .int .i64 it] (.tup [encSer (recR s v n it).1, .int .i64 (recR s v n it).2]) := by
  refine ACalls.intro E_ok Try.func24 rfl rfl Try.ntmps24 Try.results24 (Nat.le_of_ble_eq_true rfl) fun hok base S0 w0 => ?_
  have hf := fndR_rng s.iss v n
  have hir := itemR_rng s.iss it
  -- region 0
  refine AWp.rseq E_ok [0, 1, 2, 3, 4, 8, 9, 10, 11, 17, 24, 30] fun K hK => ?_
  simp [encSer_eq, encIsss_eq, encIss_eq]
  try simp (disch := omega) only [wrap_i64]
  repeat refine ⟨by first | omega | assumption | (simp only [maxLen]; omega) | (intros; omega) | decide, ?_⟩
  refine hK _ ?_
  clear hK K
  -- region 1
  refine AWp.rseq E_ok [0, 1, 2, 3, 4, 8, 9, 10, 11, 17, 24, 30] fun K hK => ?_
  simp [encSer_eq, encIsss_eq, encIss_eq]
  try simp (disch := omega) only [wrap_i64]
  repeat refine ⟨by first | omega | assumption | (simp only [maxLen]; omega) | (intros; omega) | decide, ?_⟩
  refine meet.of (serial_find s v n) ?_
  simp [encSer_eq, encIsss_eq, encIss_eq]
  try simp (disch := omega) only [wrap_i64]
  repeat refine ⟨by first | omega | assumption | (simp only [maxLen]; omega) | (intros; omega) | decide, ?_⟩
  refine hK _ ?_
  clear hK K
  refine AWp.seq ?_
  -- region 2
  refine AWp.rseq E_ok [0, 1, 2, 3, 4, 8, 9, 10, 11, 17, 24, 30] fun K hK => ?_
  simp [encSer_eq, encIsss_eq, encIss_eq]
  try simp (disch := omega) only [wrap_i64]
  repeat refine ⟨by first | omega | assumption | (simp only [maxLen]; omega) | (intros; omega) | decide, ?_⟩
  refine hK _ ?_
  clear hK K
  refine AWp.cond rfl (fun h17 => ?_) (fun h17 => ?_)
  · try simp at h17
    have hb := rec_none (it := it) (by omega)
    -- region 3
    refine AWp.rseq E_ok [0, 1, 2, 3, 4, 8, 9, 10, 11, 17, 24, 30] fun K hK => ?_
    simp [encSer_eq, encIsss_eq, encIss_eq]
    try simp (disch := omega) only [wrap_i64]
    repeat refine ⟨by first | omega | assumption | (simp only [maxLen]; omega) | (intros; omega) | decide, ?_⟩
    refine hK _ ?_
    clear hK K
    refine AWp.ret ?_
    repeat first | refine thenN ?_ | refine thenX ?_ | refine thenR ?_ | refine blockN ?_ | refine blockR ?_ | refine blockX ?_ | refine blockM rfl ?_
    simp [RetOk, RV, RVs, hb, zSer, zPat, encSer_eq, encInts_eq, encIsss_eq, encIss_eq, zIss]
  · try simp at h17
    obtain ⟨k, x, e, hk, hx, hg, hnum⟩ := fndR_at (l := s.iss) (v := v) (n := n) (by omega)
    have hb := rec_at (it := it) e hg
    have hxy : s.iss[k]'hk = x := (List.getElem?_eq_some_iff.1 hx).2
    refine AWp.skip ?_
    repeat first | refine thenN ?_ | refine thenX ?_ | refine thenR ?_ | refine blockN ?_ | refine blockR ?_ | refine blockX ?_ | refine blockM rfl ?_
    refine AWp.seq ?_
    -- region 4
    refine AWp.rseq E_ok [0, 1, 2, 3, 4, 8, 9, 10, 11, 17, 24, 30] fun K hK => ?_
    simp [encSer_eq, encIsss_eq, encIss_eq, e, hx, hk, hxy]
    try simp (disch := omega) only [wrap_i64]
    repeat refine ⟨by first | omega | assumption | (simp only [maxLen]; omega) | (intros; omega) | decide, ?_⟩
    refine meet.of (serial_has x) ?_
    simp [encSer_eq, encIsss_eq, encIss_eq, e, hx, hk, hxy]
    try simp (disch := omega) only [wrap_i64]
    repeat refine ⟨by first | omega | assumption | (simp only [maxLen]; omega) | (intros; omega) | decide, ?_⟩
    refine hK _ ?_
    clear hK K
    refine AWp.cond rfl (fun h24 => ?_) (fun h24 => ?_)
    · try simp at h24
      rw [if_pos h24] at hb
      -- region 5
      refine AWp.rseq E_ok [0, 1, 2, 3, 4, 8, 9, 10, 11, 17, 24, 30] fun K hK => ?_
      simp [encSer_eq, encIsss_eq, encIss_eq, e, hx, hk, hxy]
      try simp (disch := omega) only [wrap_i64]
      repeat refine ⟨by first | omega | assumption | (simp only [maxLen]; omega) | (intros; omega) | decide, ?_⟩
      refine hK _ ?_
      clear hK K
      refine AWp.ret ?_
      repeat first | refine thenN ?_ | refine thenX ?_ | refine thenR ?_ | refine blockN ?_ | refine blockR ?_ | refine blockX ?_ | refine blockM rfl ?_
      simp [RetOk, RV, RVs, hb, zSer, zPat, encSer_eq, encInts_eq, encIsss_eq, encIss_eq, zIss]
    · try simp at h24
      rw [if_neg (by rw [h24]; decide)] at hb
      refine AWp.skip ?_
      repeat first | refine thenN ?_ | refine thenX ?_ | refine thenR ?_ | refine blockN ?_ | refine blockR ?_ | refine blockX ?_ | refine blockM rfl ?_
      refine AWp.seq ?_
      -- region 6
      refine AWp.rseq E_ok [0, 1, 2, 3, 4, 8, 9, 10, 11, 17, 24, 30] fun K hK => ?_
      simp [encSer_eq, encIsss_eq, encIss_eq, e, hx, hk, hxy]
      try simp (disch := omega) only [wrap_i64]
      repeat refine ⟨by first | omega | assumption | (simp only [maxLen]; omega) | (intros; omega) | decide, ?_⟩
      refine meet.of (serial_checkItem s it) ?_
      simp [encSer_eq, encIsss_eq, encIss_eq, e, hx, hk, hxy]
      try simp (disch := omega) only [wrap_i64]
      repeat refine ⟨by first | omega | assumption | (simp only [maxLen]; omega) | (intros; omega) | decide, ?_⟩
      refine hK _ ?_
      clear hK K
      -- region 7
      refine AWp.rseq E_ok [0, 1, 2, 3, 4, 8, 9, 10, 11, 17, 24, 30] fun K hK => ?_
      simp [encSer_eq, encIsss_eq, encIss_eq, e, hx, hk, hxy]
      try simp (disch := omega) only [wrap_i64]
      repeat refine ⟨by first | omega | assumption | (simp only [maxLen]; omega) | (intros; omega) | decide, ?_⟩
      refine hK _ ?_
      clear hK K
      refine AWp.cond rfl (fun h30 => ?_) (fun h30 => ?_)
      · try simp at h30
        rw [if_pos h30] at hb
        -- region 8
        refine AWp.rseq E_ok [0, 1, 2, 3, 4, 8, 9, 10, 11, 17, 24, 30] fun K hK => ?_
        simp [encSer_eq, encIsss_eq, encIss_eq, e, hx, hk, hxy]
        try simp (disch := omega) only [wrap_i64]
        repeat refine ⟨by first | omega | assumption | (simp only [maxLen]; omega) | (intros; omega) | decide, ?_⟩
        refine hK _ ?_
        clear hK K
        refine AWp.ret ?_
        repeat first | refine thenN ?_ | refine thenX ?_ | refine thenR ?_ | refine blockN ?_ | refine blockR ?_ | refine blockX ?_ | refine blockM rfl ?_
        simp [RetOk, RV, RVs, hb, zSer, zPat, encSer_eq, encInts_eq, encIsss_eq, encIss_eq, zIss]
      · try simp at h30
        rw [if_neg (by omega)] at hb
        refine AWp.skip ?_
        repeat first | refine thenN ?_ | refine thenX ?_ | refine thenR ?_ | refine blockN ?_ | refine blockR ?_ | refine blockX ?_ | refine blockM rfl ?_
        -- region 9
        refine AWp.rseq E_ok [0, 1, 2, 3, 4, 8, 9, 10, 11, 17, 24, 30] fun K hK => ?_
        simp [encSer_eq, encIsss_eq, encIss_eq, e, hx, hk, hxy]
        try simp (disch := omega) only [wrap_i64]
        repeat refine ⟨by first | omega | assumption | (simp only [maxLen]; omega) | (intros; omega) | decide, ?_⟩
        refine meet.of (slices_Clone_api_Issue_api_Issue s.iss (by omega)) ?_
        simp [encSer_eq, encIsss_eq, encIss_eq, e, hx, hk, hxy]
        try simp (disch := omega) only [wrap_i64]
        repeat refine ⟨by first | omega | assumption | (simp only [maxLen]; omega) | (intros; omega) | decide, ?_⟩
        refine hK _ ?_
        clear hK K
        -- region 10, every order
        refine AWp.rseqS E_ok mixed [0, 1, 2, 3, 4, 8, 9, 10, 11, 17, 24, 30] (n := 13) (l := #[false, false, false, false, false, false, false, false, false, false, false, false, false]) rfl (by kernel_rfl) fun K hK => ?_
        suffices hnext : K [(0, T.val (D.agg [D.int IntKind.i64 s.rcd, D.int IntKind.i64 s.pat.start, D.int IntKind.i64 s.pat.every, D.int IntKind.i64 s.pat.per, D.int IntKind.i64 s.pat.first, encInts s.pat.skip, encInts s.pat.dbl, D.int IntKind.i64 s.next, (D.agg [D.int IntKind.i64 zIss.vol, D.int IntKind.i64 zIss.num, D.int IntKind.i64 zIss.last, D.int IntKind.i64 zIss.day, D.int IntKind.i64 zIss.st, D.int IntKind.i64 zIss.item]).slice (List.map encIss s.iss)])), (1, T.val (D.int IntKind.i64 v)), (2, T.val (D.int IntKind.i64 n)), (3, T.val (D.int IntKind.i64 it)), (4, T.box [C.d (D.int IntKind.i64 s.rcd), C.d (D.int IntKind.i64 s.pat.start), C.d (D.int IntKind.i64 s.pat.every), C.d (D.int IntKind.i64 s.pat.per), C.d (D.int IntKind.i64 s.pat.first), C.d (encInts s.pat.skip), C.d (encInts s.pat.dbl), C.d (D.int IntKind.i64 s.next), C.own true (D.agg [D.int IntKind.i64 zIss.vol, D.int IntKind.i64 zIss.num, D.int IntKind.i64 zIss.last, D.int IntKind.i64 zIss.day, D.int IntKind.i64 zIss.st, D.int IntKind.i64 zIss.item]) ((List.map encIss s.iss).set k (D.agg [D.int IntKind.i64 x.vol, D.int IntKind.i64 x.num, D.int IntKind.i64 x.last, D.int IntKind.i64 x.day, D.int IntKind.i64 (2 : Int), D.int IntKind.i64 it]))]), (8, T.box [C.d (D.int IntKind.i64 (0 : Int)), C.d (D.int IntKind.i64 (0 : Int)), C.d (D.int IntKind.i64 (0 : Int)), C.d (D.int IntKind.i64 (0 : Int)), C.d (D.int IntKind.i64 (0 : Int)), C.d ((D.int IntKind.i64 (0 : Int)).slice []), C.d ((D.int IntKind.i64 (0 : Int)).slice []), C.d (D.int IntKind.i64 (0 : Int)), C.d ((D.agg [D.int IntKind.i64 (0 : Int), D.int IntKind.i64 (0 : Int), D.int IntKind.i64 (0 : Int), D.int IntKind.i64 (0 : Int), D.int IntKind.i64 (0 : Int), D.int IntKind.i64 (0 : Int)]).slice [])]), (9, T.val (D.int IntKind.i64 (0 : Int))), (10, T.val (D.int IntKind.i64 ↑k)), (11, T.val (D.int IntKind.i64 (itemR s.iss it))), (17, T.val (D.bool (decide (↑k < (0 : Int))))), (24, T.val (D.bool (hasI x))), (30, T.val (D.bool (itemR s.iss it != (0 : Int))))] by
          refine contS.cut 0 #[true, true, true, true, true, true, true, true, true, true, true, true, true] [(0, T.val (D.agg [D.int IntKind.i64 s.rcd, D.int IntKind.i64 s.pat.start, D.int IntKind.i64 s.pat.every, D.int IntKind.i64 s.pat.per, D.int IntKind.i64 s.pat.first, encInts s.pat.skip, encInts s.pat.dbl, D.int IntKind.i64 s.next, (D.agg [D.int IntKind.i64 zIss.vol, D.int IntKind.i64 zIss.num, D.int IntKind.i64 zIss.last, D.int IntKind.i64 zIss.day, D.int IntKind.i64 zIss.st, D.int IntKind.i64 zIss.item]).slice (List.map encIss s.iss)])), (1, T.val (D.int IntKind.i64 v)), (2, T.val (D.int IntKind.i64 n)), (3, T.val (D.int IntKind.i64 it)), (4, T.box [C.d (D.int IntKind.i64 s.rcd), C.d (D.int IntKind.i64 s.pat.start), C.d (D.int IntKind.i64 s.pat.every), C.d (D.int IntKind.i64 s.pat.per), C.d (D.int IntKind.i64 s.pat.first), C.d (encInts s.pat.skip), C.d (encInts s.pat.dbl), C.d (D.int IntKind.i64 s.next), C.own true (D.agg [D.int IntKind.i64 zIss.vol, D.int IntKind.i64 zIss.num, D.int IntKind.i64 zIss.last, D.int IntKind.i64 zIss.day, D.int IntKind.i64 zIss.st, D.int IntKind.i64 zIss.item]) ((List.map encIss s.iss).set k (D.agg [D.int IntKind.i64 x.vol, D.int IntKind.i64 x.num, D.int IntKind.i64 x.last, D.int IntKind.i64 x.day, D.int IntKind.i64 (2 : Int), D.int IntKind.i64 it]))]), (8, T.box [C.d (D.int IntKind.i64 (0 : Int)), C.d (D.int IntKind.i64 (0 : Int)), C.d (D.int IntKind.i64 (0 : Int)), C.d (D.int IntKind.i64 (0 : Int)), C.d (D.int IntKind.i64 (0 : Int)), C.d ((D.int IntKind.i64 (0 : Int)).slice []), C.d ((D.int IntKind.i64 (0 : Int)).slice []), C.d (D.int IntKind.i64 (0 : Int)), C.d ((D.agg [D.int IntKind.i64 (0 : Int), D.int IntKind.i64 (0 : Int), D.int IntKind.i64 (0 : Int), D.int IntKind.i64 (0 : Int), D.int IntKind.i64 (0 : Int), D.int IntKind.i64 (0 : Int)]).slice [])]), (9, T.val (D.int IntKind.i64 (0 : Int))), (10, T.val (D.int IntKind.i64 ↑k)), (11, T.val (D.int IntKind.i64 (itemR s.iss it))), (17, T.val (D.bool (decide (↑k < (0 : Int))))), (24, T.val (D.bool (hasI x))), (30, T.val (D.bool (itemR s.iss it != (0 : Int))))] ?_ fun h_1_4_9_12_ => ?_
          · skip
            refine coreS.nil (by kernel_rfl) ?_
            simpa [encSer_eq, encIsss_eq, encIss_eq] using hnext
          refine contS.cut 1 #[true, true, true, true, true, true, true, true, true, true, true, true, false] [(0, T.val (D.agg [D.int IntKind.i64 s.rcd, D.int IntKind.i64 s.pat.start, D.int IntKind.i64 s.pat.every, D.int IntKind.i64 s.pat.per, D.int IntKind.i64 s.pat.first, encInts s.pat.skip, encInts s.pat.dbl, D.int IntKind.i64 s.next, (D.agg [D.int IntKind.i64 zIss.vol, D.int IntKind.i64 zIss.num, D.int IntKind.i64 zIss.last, D.int IntKind.i64 zIss.day, D.int IntKind.i64 zIss.st, D.int IntKind.i64 zIss.item]).slice (List.map encIss s.iss)])), (1, T.val (D.int IntKind.i64 v)), (2, T.val (D.int IntKind.i64 n)), (3, T.val (D.int IntKind.i64 it)), (4, T.box [C.d (D.int IntKind.i64 s.rcd), C.d (D.int IntKind.i64 s.pat.start), C.d (D.int IntKind.i64 s.pat.every), C.d (D.int IntKind.i64 s.pat.per), C.d (D.int IntKind.i64 s.pat.first), C.d (encInts s.pat.skip), C.d (encInts s.pat.dbl), C.d (D.int IntKind.i64 s.next), C.own true (D.agg [D.int IntKind.i64 zIss.vol, D.int IntKind.i64 zIss.num, D.int IntKind.i64 zIss.last, D.int IntKind.i64 zIss.day, D.int IntKind.i64 zIss.st, D.int IntKind.i64 zIss.item]) ((List.map encIss s.iss).set k (D.agg [D.int IntKind.i64 x.vol, D.int IntKind.i64 x.num, D.int IntKind.i64 x.last, D.int IntKind.i64 x.day, D.int IntKind.i64 (2 : Int), D.int IntKind.i64 x.item]))]), (8, T.box [C.d (D.int IntKind.i64 (0 : Int)), C.d (D.int IntKind.i64 (0 : Int)), C.d (D.int IntKind.i64 (0 : Int)), C.d (D.int IntKind.i64 (0 : Int)), C.d (D.int IntKind.i64 (0 : Int)), C.d ((D.int IntKind.i64 (0 : Int)).slice []), C.d ((D.int IntKind.i64 (0 : Int)).slice []), C.d (D.int IntKind.i64 (0 : Int)), C.d ((D.agg [D.int IntKind.i64 (0 : Int), D.int IntKind.i64 (0 : Int), D.int IntKind.i64 (0 : Int), D.int IntKind.i64 (0 : Int), D.int IntKind.i64 (0 : Int), D.int IntKind.i64 (0 : Int)]).slice [])]), (9, T.val (D.int IntKind.i64 (0 : Int))), (10, T.val (D.int IntKind.i64 ↑k)), (11, T.val (D.int IntKind.i64 (itemR s.iss it))), (17, T.val (D.bool (decide (↑k < (0 : Int))))), (24, T.val (D.bool (hasI x))), (30, T.val (D.bool (itemR s.iss it != (0 : Int)))), (43, T.val (D.int IntKind.i64 it)), (47, T.optr (4, 9) k 5)] ?_ fun h_1_4_9 => ?_
          · skip
            refine coreS.step E_ok [12] (by kernel_rfl) (by simp) ?_
            refine anyS.cons rfl ?_ ?_
            · skip
              simp [encSer_eq, encIsss_eq, encIss_eq, e, hx, hk, hxy]
              try simp (disch := omega) only [wrap_i64]
              repeat refine ⟨by first | omega | assumption | (simp only [maxLen]; omega) | (intros; omega) | decide, ?_⟩
              exact contS.mk (by simp [Weak, TW, T.plain, encSer_eq, encIsss_eq, encIss_eq]) h_1_4_9_12_ (by kernel_rfl)
            exact anyS.nil
          refine contS.cut 4 #[true, true, true, true, true, true, true, true, true, false, false, false, false] [(0, T.val (D.agg [D.int IntKind.i64 s.rcd, D.int IntKind.i64 s.pat.start, D.int IntKind.i64 s.pat.every, D.int IntKind.i64 s.pat.per, D.int IntKind.i64 s.pat.first, encInts s.pat.skip, encInts s.pat.dbl, D.int IntKind.i64 s.next, (D.agg [D.int IntKind.i64 zIss.vol, D.int IntKind.i64 zIss.num, D.int IntKind.i64 zIss.last, D.int IntKind.i64 zIss.day, D.int IntKind.i64 zIss.st, D.int IntKind.i64 zIss.item]).slice (List.map encIss s.iss)])), (1, T.val (D.int IntKind.i64 v)), (2, T.val (D.int IntKind.i64 n)), (3, T.val (D.int IntKind.i64 it)), (4, T.box [C.d (D.int IntKind.i64 s.rcd), C.d (D.int IntKind.i64 s.pat.start), C.d (D.int IntKind.i64 s.pat.every), C.d (D.int IntKind.i64 s.pat.per), C.d (D.int IntKind.i64 s.pat.first), C.d (encInts s.pat.skip), C.d (encInts s.pat.dbl), C.d (D.int IntKind.i64 s.next), C.own true (D.agg [D.int IntKind.i64 zIss.vol, D.int IntKind.i64 zIss.num, D.int IntKind.i64 zIss.last, D.int IntKind.i64 zIss.day, D.int IntKind.i64 zIss.st, D.int IntKind.i64 zIss.item]) (List.map encIss s.iss)]), (8, T.box [C.d (D.int IntKind.i64 (0 : Int)), C.d (D.int IntKind.i64 (0 : Int)), C.d (D.int IntKind.i64 (0 : Int)), C.d (D.int IntKind.i64 (0 : Int)), C.d (D.int IntKind.i64 (0 : Int)), C.d ((D.int IntKind.i64 (0 : Int)).slice []), C.d ((D.int IntKind.i64 (0 : Int)).slice []), C.d (D.int IntKind.i64 (0 : Int)), C.d ((D.agg [D.int IntKind.i64 (0 : Int), D.int IntKind.i64 (0 : Int), D.int IntKind.i64 (0 : Int), D.int IntKind.i64 (0 : Int), D.int IntKind.i64 (0 : Int), D.int IntKind.i64 (0 : Int)]).slice [])]), (9, T.val (D.int IntKind.i64 (0 : Int))), (10, T.val (D.int IntKind.i64 ↑k)), (11, T.val (D.int IntKind.i64 (itemR s.iss it))), (17, T.val (D.bool (decide (↑k < (0 : Int))))), (24, T.val (D.bool (hasI x))), (30, T.val (D.bool (itemR s.iss it != (0 : Int)))), (41, T.alias (4, 9)), (42, T.val (D.int IntKind.i64 ↑k)), (43, T.val (D.int IntKind.i64 it)), (45, T.optr (4, 9) k 4)] ?_ fun h_1_4 => ?_
          · skip
            refine coreS.step E_ok [9] (by kernel_rfl) (by simp) ?_
            refine anyS.cons rfl ?_ ?_
            · skip
              simp [encSer_eq, encIsss_eq, encIss_eq, e, hx, hk, hxy]
              try simp (disch := omega) only [wrap_i64]
              repeat refine ⟨by first | omega | assumption | (simp only [maxLen]; omega) | (intros; omega) | decide, ?_⟩
              refine contS.now (f' := 3) (l' := #[true, true, true, true, true, true, true, true, true, true, false, false, false]) ?_ rfl (by kernel_rfl)
              refine coreS.dry E_ok (by kernel_rfl) 10 rfl rfl (by kernel_rfl) (by kernel_rfl) ?_
              simp [encSer_eq, encIsss_eq, encIss_eq, e, hx, hk, hxy]
              try simp (disch := omega) only [wrap_i64]
              repeat refine ⟨by first | omega | assumption | (simp only [maxLen]; omega) | (intros; omega) | decide, ?_⟩
              refine contS.now (f' := 2) (l' := #[true, true, true, true, true, true, true, true, true, true, true, false, false]) ?_ rfl (by kernel_rfl)
              refine coreS.dry E_ok (by kernel_rfl) 11 rfl rfl (by kernel_rfl) (by kernel_rfl) ?_
              simp [encSer_eq, encIsss_eq, encIss_eq, e, hx, hk, hxy]
              try simp (disch := omega) only [wrap_i64]
              repeat refine ⟨by first | omega | assumption | (simp only [maxLen]; omega) | (intros; omega) | decide, ?_⟩
              exact contS.mk (by simp [Weak, TW, T.plain, encSer_eq, encIsss_eq, encIss_eq]) h_1_4_9 (by kernel_rfl)
            exact anyS.nil
          refine contS.cut 4 #[true, true, true, true, false, true, true, true, true, true, false, false, false] [(0, T.val (D.agg [D.int IntKind.i64 s.rcd, D.int IntKind.i64 s.pat.start, D.int IntKind.i64 s.pat.every, D.int IntKind.i64 s.pat.per, D.int IntKind.i64 s.pat.first, encInts s.pat.skip, encInts s.pat.dbl, D.int IntKind.i64 s.next, (D.agg [D.int IntKind.i64 zIss.vol, D.int IntKind.i64 zIss.num, D.int IntKind.i64 zIss.last, D.int IntKind.i64 zIss.day, D.int IntKind.i64 zIss.st, D.int IntKind.i64 zIss.item]).slice (List.map encIss s.iss)])), (1, T.val (D.int IntKind.i64 v)), (2, T.val (D.int IntKind.i64 n)), (3, T.val (D.int IntKind.i64 it)), (4, T.box [C.d (D.int IntKind.i64 s.rcd), C.d (D.int IntKind.i64 s.pat.start), C.d (D.int IntKind.i64 s.pat.every), C.d (D.int IntKind.i64 s.pat.per), C.d (D.int IntKind.i64 s.pat.first), C.d (encInts s.pat.skip), C.d (encInts s.pat.dbl), C.d (D.int IntKind.i64 s.next), C.own true (D.agg [D.int IntKind.i64 zIss.vol, D.int IntKind.i64 zIss.num, D.int IntKind.i64 zIss.last, D.int IntKind.i64 zIss.day, D.int IntKind.i64 zIss.st, D.int IntKind.i64 zIss.item]) ((List.map encIss s.iss).set k (D.agg [D.int IntKind.i64 x.vol, D.int IntKind.i64 x.num, D.int IntKind.i64 x.last, D.int IntKind.i64 x.day, D.int IntKind.i64 (2 : Int), D.int IntKind.i64 x.item]))]), (8, T.box [C.d (D.int IntKind.i64 (0 : Int)), C.d (D.int IntKind.i64 (0 : Int)), C.d (D.int IntKind.i64 (0 : Int)), C.d (D.int IntKind.i64 (0 : Int)), C.d (D.int IntKind.i64 (0 : Int)), C.d ((D.int IntKind.i64 (0 : Int)).slice []), C.d ((D.int IntKind.i64 (0 : Int)).slice []), C.d (D.int IntKind.i64 (0 : Int)), C.d ((D.agg [D.int IntKind.i64 (0 : Int), D.int IntKind.i64 (0 : Int), D.int IntKind.i64 (0 : Int), D.int IntKind.i64 (0 : Int), D.int IntKind.i64 (0 : Int), D.int IntKind.i64 (0 : Int)]).slice [])]), (9, T.val (D.int IntKind.i64 (0 : Int))), (10, T.val (D.int IntKind.i64 ↑k)), (11, T.val (D.int IntKind.i64 (itemR s.iss it))), (17, T.val (D.bool (decide (↑k < (0 : Int))))), (24, T.val (D.bool (hasI x))), (30, T.val (D.bool (itemR s.iss it != (0 : Int)))), (40, T.ptr 4 8), (42, T.val (D.int IntKind.i64 ↑k)), (43, T.val (D.int IntKind.i64 it))] ?_ fun h_1_9 => ?_
          · skip
            refine coreS.step E_ok [4] (by kernel_rfl) (by simp) ?_
            refine anyS.cons rfl ?_ ?_
            · skip
              simp [encSer_eq, encIsss_eq, encIss_eq, e, hx, hk, hxy]
              try simp (disch := omega) only [wrap_i64]
              repeat refine ⟨by first | omega | assumption | (simp only [maxLen]; omega) | (intros; omega) | decide, ?_⟩
              refine contS.now (f' := 3) (l' := #[true, true, true, true, true, true, true, true, true, true, false, false, false]) ?_ rfl (by kernel_rfl)
              refine coreS.dry E_ok (by kernel_rfl) 10 rfl rfl (by kernel_rfl) (by kernel_rfl) ?_
              simp [encSer_eq, encIsss_eq, encIss_eq, e, hx, hk, hxy]
              try simp (disch := omega) only [wrap_i64]
              repeat refine ⟨by first | omega | assumption | (simp only [maxLen]; omega) | (intros; omega) | decide, ?_⟩
              refine contS.now (f' := 2) (l' := #[true, true, true, true, true, true, true, true, true, true, true, false, false]) ?_ rfl (by kernel_rfl)
              refine coreS.dry E_ok (by kernel_rfl) 11 rfl rfl (by kernel_rfl) (by kernel_rfl) ?_
              simp [encSer_eq, encIsss_eq, encIss_eq, e, hx, hk, hxy]
              try simp (disch := omega) only [wrap_i64]
              repeat refine ⟨by first | omega | assumption | (simp only [maxLen]; omega) | (intros; omega) | decide, ?_⟩
              exact contS.mk (by simp [Weak, TW, T.plain, encSer_eq, encIsss_eq, encIss_eq]) h_1_4_9 (by kernel_rfl)
            exact anyS.nil
          refine contS.cut 5 #[true, true, true, true, false, true, true, true, true, false, false, false, false] [(0, T.val (D.agg [D.int IntKind.i64 s.rcd, D.int IntKind.i64 s.pat.start, D.int IntKind.i64 s.pat.every, D.int IntKind.i64 s.pat.per, D.int IntKind.i64 s.pat.first, encInts s.pat.skip, encInts s.pat.dbl, D.int IntKind.i64 s.next, (D.agg [D.int IntKind.i64 zIss.vol, D.int IntKind.i64 zIss.num, D.int IntKind.i64 zIss.last, D.int IntKind.i64 zIss.day, D.int IntKind.i64 zIss.st, D.int IntKind.i64 zIss.item]).slice (List.map encIss s.iss)])), (1, T.val (D.int IntKind.i64 v)), (2, T.val (D.int IntKind.i64 n)), (3, T.val (D.int IntKind.i64 it)), (4, T.box [C.d (D.int IntKind.i64 s.rcd), C.d (D.int IntKind.i64 s.pat.start), C.d (D.int IntKind.i64 s.pat.every), C.d (D.int IntKind.i64 s.pat.per), C.d (D.int IntKind.i64 s.pat.first), C.d (encInts s.pat.skip), C.d (encInts s.pat.dbl), C.d (D.int IntKind.i64 s.next), C.own true (D.agg [D.int IntKind.i64 zIss.vol, D.int IntKind.i64 zIss.num, D.int IntKind.i64 zIss.last, D.int IntKind.i64 zIss.day, D.int IntKind.i64 zIss.st, D.int IntKind.i64 zIss.item]) (List.map encIss s.iss)]), (8, T.box [C.d (D.int IntKind.i64 (0 : Int)), C.d (D.int IntKind.i64 (0 : Int)), C.d (D.int IntKind.i64 (0 : Int)), C.d (D.int IntKind.i64 (0 : Int)), C.d (D.int IntKind.i64 (0 : Int)), C.d ((D.int IntKind.i64 (0 : Int)).slice []), C.d ((D.int IntKind.i64 (0 : Int)).slice []), C.d (D.int IntKind.i64 (0 : Int)), C.d ((D.agg [D.int IntKind.i64 (0 : Int), D.int IntKind.i64 (0 : Int), D.int IntKind.i64 (0 : Int), D.int IntKind.i64 (0 : Int), D.int IntKind.i64 (0 : Int), D.int IntKind.i64 (0 : Int)]).slice [])]), (9, T.val (D.int IntKind.i64 (0 : Int))), (10, T.val (D.int IntKind.i64 ↑k)), (11, T.val (D.int IntKind.i64 (itemR s.iss it))), (17, T.val (D.bool (decide (↑k < (0 : Int))))), (24, T.val (D.bool (hasI x))), (30, T.val (D.bool (itemR s.iss it != (0 : Int)))), (40, T.ptr 4 8), (42, T.val (D.int IntKind.i64 ↑k)), (43, T.val (D.int IntKind.i64 it)), (45, T.optr (4, 9) k 4)] ?_ fun h_1 => ?_
          · skip
            refine coreS.step E_ok [4, 9] (by kernel_rfl) (by simp) ?_
            refine anyS.cons rfl ?_ ?_
            · skip
              simp [encSer_eq, encIsss_eq, encIss_eq, e, hx, hk, hxy]
              try simp (disch := omega) only [wrap_i64]
              repeat refine ⟨by first | omega | assumption | (simp only [maxLen]; omega) | (intros; omega) | decide, ?_⟩
              exact contS.mk (by simp [Weak, TW, T.plain, encSer_eq, encIsss_eq, encIss_eq]) h_1_4 (by kernel_rfl)
            refine anyS.cons rfl ?_ ?_
            · skip
              simp [encSer_eq, encIsss_eq, encIss_eq, e, hx, hk, hxy]
              try simp (disch := omega) only [wrap_i64]
              repeat refine ⟨by first | omega | assumption | (simp only [maxLen]; omega) | (intros; omega) | decide, ?_⟩
              exact contS.mk (by simp [Weak, TW, T.plain, encSer_eq, encIsss_eq, encIss_eq]) h_1_9 (by kernel_rfl)
            exact anyS.nil
          refine contS.cut 7 #[true, false, true, true, true, true, true, false, false, false, false, false, false] [(0, T.val (D.agg [D.int IntKind.i64 s.rcd, D.int IntKind.i64 s.pat.start, D.int IntKind.i64 s.pat.every, D.int IntKind.i64 s.pat.per, D.int IntKind.i64 s.pat.first, encInts s.pat.skip, encInts s.pat.dbl, D.int IntKind.i64 s.next, (D.agg [D.int IntKind.i64 zIss.vol, D.int IntKind.i64 zIss.num, D.int IntKind.i64 zIss.last, D.int IntKind.i64 zIss.day, D.int IntKind.i64 zIss.st, D.int IntKind.i64 zIss.item]).slice (List.map encIss s.iss)])), (1, T.val (D.int IntKind.i64 v)), (2, T.val (D.int IntKind.i64 n)), (3, T.val (D.int IntKind.i64 it)), (4, T.box [C.d (D.int IntKind.i64 s.rcd), C.d (D.int IntKind.i64 s.pat.start), C.d (D.int IntKind.i64 s.pat.every), C.d (D.int IntKind.i64 s.pat.per), C.d (D.int IntKind.i64 s.pat.first), C.d (encInts s.pat.skip), C.d (encInts s.pat.dbl), C.d (D.int IntKind.i64 s.next), C.own true (D.agg [D.int IntKind.i64 zIss.vol, D.int IntKind.i64 zIss.num, D.int IntKind.i64 zIss.last, D.int IntKind.i64 zIss.day, D.int IntKind.i64 zIss.st, D.int IntKind.i64 zIss.item]) (List.map encIss s.iss)]), (8, T.box [C.d (D.int IntKind.i64 (0 : Int)), C.d (D.int IntKind.i64 (0 : Int)), C.d (D.int IntKind.i64 (0 : Int)), C.d (D.int IntKind.i64 (0 : Int)), C.d (D.int IntKind.i64 (0 : Int)), C.d ((D.int IntKind.i64 (0 : Int)).slice []), C.d ((D.int IntKind.i64 (0 : Int)).slice []), C.d (D.int IntKind.i64 (0 : Int)), C.d ((D.agg [D.int IntKind.i64 (0 : Int), D.int IntKind.i64 (0 : Int), D.int IntKind.i64 (0 : Int), D.int IntKind.i64 (0 : Int), D.int IntKind.i64 (0 : Int), D.int IntKind.i64 (0 : Int)]).slice [])]), (9, T.val (D.int IntKind.i64 (0 : Int))), (10, T.val (D.int IntKind.i64 ↑k)), (11, T.val (D.int IntKind.i64 (itemR s.iss it))), (17, T.val (D.bool (decide (↑k < (0 : Int))))), (24, T.val (D.bool (hasI x))), (30, T.val (D.bool (itemR s.iss it != (0 : Int)))), (37, T.ptr 4 8), (39, T.val (D.int IntKind.i64 ↑k)), (41, T.alias (4, 9)), (42, T.val (D.int IntKind.i64 ↑k)), (43, T.val (D.int IntKind.i64 it))] ?_ fun h_4 => ?_
          · skip
            refine coreS.step E_ok [1] (by kernel_rfl) (by simp) ?_
            refine anyS.cons rfl ?_ ?_
            · skip
              simp [encSer_eq, encIsss_eq, encIss_eq, e, hx, hk, hxy]
              try simp (disch := omega) only [wrap_i64]
              repeat refine ⟨by first | omega | assumption | (simp only [maxLen]; omega) | (intros; omega) | decide, ?_⟩
              refine contS.now (f' := 6) (l' := #[true, true, true, true, true, true, true, false, false, false, false, false, false]) ?_ rfl (by kernel_rfl)
              refine coreS.dry E_ok (by kernel_rfl) 7 rfl rfl (by kernel_rfl) (by kernel_rfl) ?_
              simp [encSer_eq, encIsss_eq, encIss_eq, e, hx, hk, hxy]
              try simp (disch := omega) only [wrap_i64]
              repeat refine ⟨by first | omega | assumption | (simp only [maxLen]; omega) | (intros; omega) | decide, ?_⟩
              refine contS.now (f' := 5) (l' := #[true, true, true, true, true, true, true, true, false, false, false, false, false]) ?_ rfl (by kernel_rfl)
              refine coreS.dry E_ok (by kernel_rfl) 8 rfl rfl (by kernel_rfl) (by kernel_rfl) ?_
              simp [encSer_eq, encIsss_eq, encIss_eq, e, hx, hk, hxy]
              try simp (disch := omega) only [wrap_i64]
              repeat refine ⟨by first | omega | assumption | (simp only [maxLen]; omega) | (intros; omega) | decide, ?_⟩
              exact contS.mk (by simp [Weak, TW, T.plain, encSer_eq, encIsss_eq, encIss_eq]) h_1_4 (by kernel_rfl)
            exact anyS.nil
          refine contS.cut 8 #[true, false, true, true, false, true, true, false, false, false, false, false, false] [(0, T.val (D.agg [D.int IntKind.i64 s.rcd, D.int IntKind.i64 s.pat.start, D.int IntKind.i64 s.pat.every, D.int IntKind.i64 s.pat.per, D.int IntKind.i64 s.pat.first, encInts s.pat.skip, encInts s.pat.dbl, D.int IntKind.i64 s.next, (D.agg [D.int IntKind.i64 zIss.vol, D.int IntKind.i64 zIss.num, D.int IntKind.i64 zIss.last, D.int IntKind.i64 zIss.day, D.int IntKind.i64 zIss.st, D.int IntKind.i64 zIss.item]).slice (List.map encIss s.iss)])), (1, T.val (D.int IntKind.i64 v)), (2, T.val (D.int IntKind.i64 n)), (3, T.val (D.int IntKind.i64 it)), (4, T.box [C.d (D.int IntKind.i64 s.rcd), C.d (D.int IntKind.i64 s.pat.start), C.d (D.int IntKind.i64 s.pat.every), C.d (D.int IntKind.i64 s.pat.per), C.d (D.int IntKind.i64 s.pat.first), C.d (encInts s.pat.skip), C.d (encInts s.pat.dbl), C.d (D.int IntKind.i64 s.next), C.own true (D.agg [D.int IntKind.i64 zIss.vol, D.int IntKind.i64 zIss.num, D.int IntKind.i64 zIss.last, D.int IntKind.i64 zIss.day, D.int IntKind.i64 zIss.st, D.int IntKind.i64 zIss.item]) (List.map encIss s.iss)]), (8, T.box [C.d (D.int IntKind.i64 (0 : Int)), C.d (D.int IntKind.i64 (0 : Int)), C.d (D.int IntKind.i64 (0 : Int)), C.d (D.int IntKind.i64 (0 : Int)), C.d (D.int IntKind.i64 (0 : Int)), C.d ((D.int IntKind.i64 (0 : Int)).slice []), C.d ((D.int IntKind.i64 (0 : Int)).slice []), C.d (D.int IntKind.i64 (0 : Int)), C.d ((D.agg [D.int IntKind.i64 (0 : Int), D.int IntKind.i64 (0 : Int), D.int IntKind.i64 (0 : Int), D.int IntKind.i64 (0 : Int), D.int IntKind.i64 (0 : Int), D.int IntKind.i64 (0 : Int)]).slice [])]), (9, T.val (D.int IntKind.i64 (0 : Int))), (10, T.val (D.int IntKind.i64 ↑k)), (11, T.val (D.int IntKind.i64 (itemR s.iss it))), (17, T.val (D.bool (decide (↑k < (0 : Int))))), (24, T.val (D.bool (hasI x))), (30, T.val (D.bool (itemR s.iss it != (0 : Int)))), (37, T.ptr 4 8), (39, T.val (D.int IntKind.i64 ↑k)), (40, T.ptr 4 8), (42, T.val (D.int IntKind.i64 ↑k)), (43, T.val (D.int IntKind.i64 it))] ?_ fun h_ => ?_
          · skip
            refine coreS.step E_ok [1, 4] (by kernel_rfl) (by simp) ?_
            refine anyS.cons rfl ?_ ?_
            · skip
              simp [encSer_eq, encIsss_eq, encIss_eq, e, hx, hk, hxy]
              try simp (disch := omega) only [wrap_i64]
              repeat refine ⟨by first | omega | assumption | (simp only [maxLen]; omega) | (intros; omega) | decide, ?_⟩
              refine contS.now (f' := 7) (l' := #[true, true, true, true, false, true, true, false, false, false, false, false, false]) ?_ rfl (by kernel_rfl)
              refine coreS.dry E_ok (by kernel_rfl) 7 rfl rfl (by kernel_rfl) (by kernel_rfl) ?_
              simp [encSer_eq, encIsss_eq, encIss_eq, e, hx, hk, hxy]
              try simp (disch := omega) only [wrap_i64]
              repeat refine ⟨by first | omega | assumption | (simp only [maxLen]; omega) | (intros; omega) | decide, ?_⟩
              refine contS.now (f' := 6) (l' := #[true, true, true, true, false, true, true, true, false, false, false, false, false]) ?_ rfl (by kernel_rfl)
              refine coreS.dry E_ok (by kernel_rfl) 8 rfl rfl (by kernel_rfl) (by kernel_rfl) ?_
              simp [encSer_eq, encIsss_eq, encIss_eq, e, hx, hk, hxy]
              try simp (disch := omega) only [wrap_i64]
              repeat refine ⟨by first | omega | assumption | (simp only [maxLen]; omega) | (intros; omega) | decide, ?_⟩
              exact contS.mk (by simp [Weak, TW, T.plain, encSer_eq, encIsss_eq, encIss_eq]) h_1 (by kernel_rfl)
            refine anyS.cons rfl ?_ ?_
            · skip
              simp [encSer_eq, encIsss_eq, encIss_eq, e, hx, hk, hxy]
              try simp (disch := omega) only [wrap_i64]
              repeat refine ⟨by first | omega | assumption | (simp only [maxLen]; omega) | (intros; omega) | decide, ?_⟩
              exact contS.mk (by simp [Weak, TW, T.plain, encSer_eq, encIsss_eq, encIss_eq]) h_4 (by kernel_rfl)
            exact anyS.nil
          refine contS.now (f' := 13) (l' := #[false, false, false, false, false, false, false, false, false, false, false, false, false]) ?_ rfl (by kernel_rfl)
          refine coreS.dry E_ok (by kernel_rfl) 0 rfl rfl (by kernel_rfl) (by kernel_rfl) ?_
          simp [encSer_eq, encIsss_eq, encIss_eq, e, hx, hk, hxy]
          try simp (disch := omega) only [wrap_i64]
          repeat refine ⟨by first | omega | assumption | (simp only [maxLen]; omega) | (intros; omega) | decide, ?_⟩
          refine contS.now (f' := 12) (l' := #[true, false, false, false, false, false, false, false, false, false, false, false, false]) ?_ rfl (by kernel_rfl)
          refine coreS.dry E_ok (by kernel_rfl) 2 rfl rfl (by kernel_rfl) (by kernel_rfl) ?_
          simp [encSer_eq, encIsss_eq, encIss_eq, e, hx, hk, hxy]
          try simp (disch := omega) only [wrap_i64]
          repeat refine ⟨by first | omega | assumption | (simp only [maxLen]; omega) | (intros; omega) | decide, ?_⟩
          refine contS.now (f' := 11) (l' := #[true, false, true, false, false, false, false, false, false, false, false, false, false]) ?_ rfl (by kernel_rfl)
          refine coreS.dry E_ok (by kernel_rfl) 3 rfl rfl (by kernel_rfl) (by kernel_rfl) ?_
          simp [encSer_eq, encIsss_eq, encIss_eq, e, hx, hk, hxy]
          try simp (disch := omega) only [wrap_i64]
          repeat refine ⟨by first | omega | assumption | (simp only [maxLen]; omega) | (intros; omega) | decide, ?_⟩
          refine contS.now (f' := 10) (l' := #[true, false, true, true, false, false, false, false, false, false, false, false, false]) ?_ rfl (by kernel_rfl)
          refine coreS.dry E_ok (by kernel_rfl) 5 rfl rfl (by kernel_rfl) (by kernel_rfl) ?_
          simp [encSer_eq, encIsss_eq, encIss_eq, e, hx, hk, hxy]
          try simp (disch := omega) only [wrap_i64]
          repeat refine ⟨by first | omega | assumption | (simp only [maxLen]; omega) | (intros; omega) | decide, ?_⟩
          refine contS.now (f' := 9) (l' := #[true, false, true, true, false, true, false, false, false, false, false, false, false]) ?_ rfl (by kernel_rfl)
          refine coreS.dry E_ok (by kernel_rfl) 6 rfl rfl (by kernel_rfl) (by kernel_rfl) ?_
          simp [encSer_eq, encIsss_eq, encIss_eq, e, hx, hk, hxy]
          try simp (disch := omega) only [wrap_i64]
          repeat refine ⟨by first | omega | assumption | (simp only [maxLen]; omega) | (intros; omega) | decide, ?_⟩
          exact contS.mk (by simp [Weak, TW, T.plain, encSer_eq, encIsss_eq, encIss_eq]) h_ (by kernel_rfl)
        refine hK _ ?_
        clear hK K
        -- region 11
        refine AWp.rseq E_ok [0, 1, 2, 3, 4, 8, 9, 10, 11, 17, 24, 30] fun K hK => ?_
        simp [encSer_eq, encIsss_eq, encIss_eq, e, hx, hk, hxy]
        try simp (disch := omega) only [wrap_i64]
        repeat refine ⟨by first | omega | assumption | (simp only [maxLen]; omega) | (intros; omega) | decide, ?_⟩
        refine hK _ ?_
        clear hK K
        refine AWp.ret ?_
        repeat first | refine thenN ?_ | refine thenX ?_ | refine thenR ?_ | refine blockN ?_ | refine blockR ?_ | refine blockX ?_ | refine blockM rfl ?_
        simp [RetOk, RV, RVs, hb, zSer, zPat, encSer_eq, encInts_eq, encIsss_eq, encIss_eq, zIss]
end Go.Proofs.Ytceapemkefaicaa

set_option maxRecDepth 100000
set_option linter.unusedSimpArgs false
set_option linter.unusedVariables false
namespace Go.Proofs.Ytceapemkefaicaa
open Go Ab Pl
theorem serial_Miss (s : Ser) (v n : Int) (hl : s.iss.length ≤ 1000) : ACalls E.P 26 [encSer s, .int .i64 v, .int .i64 n] (.tup [encSer (missR s v n).1, .int .i64 (missR s v n).2]) := by
  refine ACalls.intro E_ok Try.func26 rfl rfl Try.ntmps26 Try.results26 (Nat.le_of_ble_eq_true rfl) fun hok base S0 w0 => ?_
  have hf := fndR_rng s.iss v n
  -- region 0
  refine AWp.rseq E_ok [0, 1, 2, 3, 6, 7, 8, 9, 15, 29] fun K hK => ?_
  simp [encSer_eq, encIsss_eq, encIss_eq]
  try simp (disch := omega) only [wrap_i64]
  repeat refine ⟨by first | omega | assumption | (simp only [maxLen]; omega) | (intros; omega) | decide, ?_⟩
  refine hK _ ?_
  clear hK K
  -- region 1
  refine AWp.rseq E_ok [0, 1, 2, 3, 6, 7, 8, 9, 15, 29] fun K hK => ?_
  simp [encSer_eq, encIsss_eq, encIss_eq]
  try simp (disch := omega) only [wrap_i64]
  repeat refine ⟨by first | omega | assumption | (simp only [maxLen]; omega) | (intros; omega) | decide, ?_⟩
  refine meet.of (serial_find s v n) ?_
  simp [encSer_eq, encIsss_eq, encIss_eq]
  try simp (disch := omega) only [wrap_i64]
  repeat refine ⟨by first | omega | assumption | (simp only [maxLen]; omega) | (intros; omega) | decide, ?_⟩
  refine hK _ ?_
  clear hK K
  refine AWp.seq ?_
  -- region 2
  refine AWp.rseq E_ok [0, 1, 2, 3, 6, 7, 8, 9, 15, 29] fun K hK => ?_
  simp [encSer_eq, encIsss_eq, encIss_eq]
  try simp (disch := omega) only [wrap_i64]
  repeat refine ⟨by first | omega | assumption | (simp only [maxLen]; omega) | (intros; omega) | decide, ?_⟩
  refine hK _ ?_
  clear hK K
  refine AWp.cond rfl (fun h15 => ?_) (fun h15 => ?_)
  · try simp at h15
    have hb := miss_none (by omega)
    -- region 3
    refine AWp.rseq E_ok [0, 1, 2, 3, 6, 7, 8, 9, 15, 29] fun K hK => ?_
    simp [encSer_eq, encIsss_eq, encIss_eq]
    try simp (disch := omega) only [wrap_i64]
    repeat refine ⟨by first | omega | assumption | (simp only [maxLen]; omega) | (intros; omega) | decide, ?_⟩
    refine hK _ ?_
    clear hK K
    refine AWp.ret ?_
    repeat first | refine thenN ?_ | refine thenX ?_ | refine thenR ?_ | refine blockN ?_ | refine blockR ?_ | refine blockX ?_ | refine blockM rfl ?_
    simp [RetOk, RV, RVs, hb, zSer, zPat, encSer_eq, encInts_eq, encIsss_eq, encIss_eq, zIss]
  · try simp at h15
    obtain ⟨k, x, e, hk, hx, hg, hnum⟩ := fndR_at (l := s.iss) (v := v) (n := n) (by omega)
    have hb := miss_at e hg
    have hxy : s.iss[k]'hk = x := (List.getElem?_eq_some_iff.1 hx).2
    refine AWp.skip ?_
    repeat first | refine thenN ?_ | refine thenX ?_ | refine thenR ?_ | refine blockN ?_ | refine blockR ?_ | refine blockX ?_ | refine blockM rfl ?_
    refine AWp.seq ?_
    -- region 4
    refine AWp.rseq E_ok [0, 1, 2, 3, 6, 7, 8, 9, 15, 29] fun K hK => ?_
    simp [encSer_eq, encIsss_eq, encIss_eq, e, hx, hk, hxy]
    try simp (disch := omega) only [wrap_i64]
    repeat refine ⟨by first | omega | assumption | (simp only [maxLen]; omega) | (intros; omega) | decide, ?_⟩
    refine hK _ ?_
    clear hK K
    -- region 5
    refine AWp.rseq E_ok [0, 1, 2, 3, 6, 7, 8, 9, 15, 29] fun K hK => ?_
    simp [encSer_eq, encIsss_eq, encIss_eq, e, hx, hk, hxy]
    try simp (disch := omega) only [wrap_i64]
    repeat refine ⟨by first | omega | assumption | (simp only [maxLen]; omega) | (intros; omega) | decide, ?_⟩
    refine hK _ ?_
    clear hK K
    refine AWp.cond rfl (fun h29 => ?_) (fun h29 => ?_)
    · try simp at h29
      rw [if_pos (by omega)] at hb
      -- region 6
      refine AWp.rseq E_ok [0, 1, 2, 3, 6, 7, 8, 9, 15, 29] fun K hK => ?_
      simp [encSer_eq, encIsss_eq, encIss_eq, e, hx, hk, hxy]
      try simp (disch := omega) only [wrap_i64]
      repeat refine ⟨by first | omega | assumption | (simp only [maxLen]; omega) | (intros; omega) | decide, ?_⟩
      refine hK _ ?_
      clear hK K
      refine AWp.ret ?_
      repeat first | refine thenN ?_ | refine thenX ?_ | refine thenR ?_ | refine blockN ?_ | refine blockR ?_ | refine blockX ?_ | refine blockM rfl ?_
      simp [RetOk, RV, RVs, hb, zSer, zPat, encSer_eq, encInts_eq, encIsss_eq, encIss_eq, zIss]
    · try simp at h29
      rw [if_neg (by omega)] at hb
      refine AWp.skip ?_
      repeat first | refine thenN ?_ | refine thenX ?_ | refine thenR ?_ | refine blockN ?_ | refine blockR ?_ | refine blockX ?_ | refine blockM rfl ?_
      -- region 7
      refine AWp.rseq E_ok [0, 1, 2, 3, 6, 7, 8, 9, 15, 29] fun K hK => ?_
      simp [encSer_eq, encIsss_eq, encIss_eq, e, hx, hk, hxy]
      try simp (disch := omega) only [wrap_i64]
      repeat refine ⟨by first | omega | assumption | (simp only [maxLen]; omega) | (intros; omega) | decide, ?_⟩
      refine meet.of (slices_Clone_api_Issue_api_Issue s.iss (by omega)) ?_
      simp [encSer_eq, encIsss_eq, encIss_eq, e, hx, hk, hxy]
      try simp (disch := omega) only [wrap_i64]
      repeat refine ⟨by first | omega | assumption | (simp only [maxLen]; omega) | (intros; omega) | decide, ?_⟩
      refine hK _ ?_
      clear hK K
      -- region 8
      refine AWp.rseq E_ok [0, 1, 2, 3, 6, 7, 8, 9, 15, 29] fun K hK => ?_
      simp [encSer_eq, encIsss_eq, encIss_eq, e, hx, hk, hxy]
      try simp (disch := omega) only [wrap_i64]
      repeat refine ⟨by first | omega | assumption | (simp only [maxLen]; omega) | (intros; omega) | decide, ?_⟩
      refine hK _ ?_
      clear hK K
      -- region 9
      refine AWp.rseq E_ok [0, 1, 2, 3, 6, 7, 8, 9, 15, 29] fun K hK => ?_
      simp [encSer_eq, encIsss_eq, encIss_eq, e, hx, hk, hxy]
      try simp (disch := omega) only [wrap_i64]
      repeat refine ⟨by first | omega | assumption | (simp only [maxLen]; omega) | (intros; omega) | decide, ?_⟩
      refine hK _ ?_
      clear hK K
      refine AWp.ret ?_
      repeat first | refine thenN ?_ | refine thenX ?_ | refine thenR ?_ | refine blockN ?_ | refine blockR ?_ | refine blockX ?_ | refine blockM rfl ?_
      simp [RetOk, RV, RVs, hb, zSer, zPat, encSer_eq, encInts_eq, encIsss_eq, encIss_eq, zIss]
end Go.Proofs.Ytceapemkefaicaa

set_option maxRecDepth 100000
set_option linter.unusedSimpArgs false
set_option linter.unusedVariables false
namespace Go.Proofs.Ytceapemkefaicaa
open Go Ab Pl
set_option maxHeartbeats 4000000 in
theorem serial_Bind (s : Ser) (v it : Int) (hl : s.iss.length ≤ 1000) : ACalls E.P 31 [encSer s, .int .i64 v, .int .i64 it] (.tup [encSer (bindR s v it).1, .int .i64 (bindR s v it).2]) := by
  refine ACalls.intro E_ok Try.func31 rfl rfl Try.ntmps31 Try.results31 (Nat.le_of_ble_eq_true rfl) fun hok base S0 w0 => ?_
  have hf := fndR_rng s.iss v s.pat.per
  have hir := itemR_rng s.iss it
  -- region 0
  refine AWp.rseq E_ok [0, 1, 2, 3, 6, 7, 8, 9, 10, 12, 13, 14, 15, 17, 18, 19, 20, 26, 30, 33, 37, 41, 57, 63, 71, 72, 73, 74, 86] fun K hK => ?_
  simp [encSer_eq, encIsss_eq, encIss_eq]
  try simp (disch := omega) only [wrap_i64]
  repeat refine ⟨by first | omega | assumption | (simp only [maxLen]; omega) | (intros; omega) | decide, ?_⟩
  refine hK _ ?_
  clear hK K
  -- region 1
  refine AWp.rseq E_ok [0, 1, 2, 3, 6, 7, 8, 9, 10, 12, 13, 14, 15, 17, 18, 19, 20, 26, 30, 33, 37, 41, 57, 63, 71, 72, 73, 74, 86] fun K hK => ?_
  simp [encSer_eq, encIsss_eq, encIss_eq]
  try simp (disch := omega) only [wrap_i64]
  repeat refine ⟨by first | omega | assumption | (simp only [maxLen]; omega) | (intros; omega) | decide, ?_⟩
  refine hK _ ?_
  clear hK K
  refine AWp.seq ?_
  -- region 2
  refine AWp.rseq E_ok [0, 1, 2, 3, 6, 7, 8, 9, 10, 12, 13, 14, 15, 17, 18, 19, 20, 26, 30, 33, 37, 41, 57, 63, 71, 72, 73, 74, 86] fun K hK => ?_
  simp [encSer_eq, encIsss_eq, encIss_eq]
  try simp (disch := omega) only [wrap_i64]
  repeat refine ⟨by first | omega | assumption | (simp only [maxLen]; omega) | (intros; omega) | decide, ?_⟩
  refine hK _ ?_
  clear hK K
  refine AWp.block ?_
  refine AWp.range (l := s.iss) (F := bndF v) (tot := bndF v (0, 0, 0) s.iss) (fun k y => match y with | (a, b, c) => ((0 ≤ a ∧ a ≤ (k : Int)) ∧ (0 ≤ b ∧ b ≤ (k : Int))) ∧ (0 ≤ c ∧ c ≤ (k : Int))) (fun k y => match y with | (a, b, c) => [(0, T.val (D.agg [D.int IntKind.i64 s.rcd, D.int IntKind.i64 s.pat.start, D.int IntKind.i64 s.pat.every, D.int IntKind.i64 s.pat.per, D.int IntKind.i64 s.pat.first, encInts s.pat.skip, encInts s.pat.dbl, D.int IntKind.i64 s.next, (D.agg [D.int IntKind.i64 zIss.vol, D.int IntKind.i64 zIss.num, D.int IntKind.i64 zIss.last, D.int IntKind.i64 zIss.day, D.int IntKind.i64 zIss.st, D.int IntKind.i64 zIss.item]).slice (List.map encIss s.iss)])), (1, T.val (D.int IntKind.i64 v)), (2, T.val (D.int IntKind.i64 it)), (3, T.box [C.d (D.int IntKind.i64 s.rcd), C.d (D.int IntKind.i64 s.pat.start), C.d (D.int IntKind.i64 s.pat.every), C.d (D.int IntKind.i64 s.pat.per), C.d (D.int IntKind.i64 s.pat.first), C.d (encInts s.pat.skip), C.d (encInts s.pat.dbl), C.d (D.int IntKind.i64 s.next), C.d ((D.agg [D.int IntKind.i64 zIss.vol, D.int IntKind.i64 zIss.num, D.int IntKind.i64 zIss.last, D.int IntKind.i64 zIss.day, D.int IntKind.i64 zIss.st, D.int IntKind.i64 zIss.item]).slice (List.map encIss s.iss))]), (6, T.box [C.d (D.int IntKind.i64 0), C.d (D.int IntKind.i64 0), C.d (D.int IntKind.i64 0), C.d (D.int IntKind.i64 0), C.d (D.int IntKind.i64 0), C.d ((D.int IntKind.i64 0).slice []), C.d ((D.int IntKind.i64 0).slice []), C.d (D.int IntKind.i64 0), C.d ((D.agg [D.int IntKind.i64 0, D.int IntKind.i64 0, D.int IntKind.i64 0, D.int IntKind.i64 0, D.int IntKind.i64 0, D.int IntKind.i64 0]).slice [])]), (8, T.val (.int .i64 a)), (9, T.val (.int .i64 b)), (10, T.val (.int .i64 c)), (17, T.val ((D.agg [D.int IntKind.i64 zIss.vol, D.int IntKind.i64 zIss.num, D.int IntKind.i64 zIss.last, D.int IntKind.i64 zIss.day, D.int IntKind.i64 zIss.st, D.int IntKind.i64 zIss.item]).slice (List.map encIss s.iss))), (18, T.val (D.int IntKind.i64 ↑s.iss.length)), (19, T.val (.int .i64 k))]) (0, 0, 0) ?_ rfl ?_ ?_
  · simp [Weak, TW, encSer_eq, encIsss_eq, encIss_eq]
  · omega
  rintro k ⟨a, b, c⟩ hk hs hi
  try simp only at hi
  -- region 3
  refine AWp.rseq E_ok [0, 1, 2, 3, 6, 7, 8, 9, 10, 12, 13, 14, 15, 17, 18, 19, 20, 26, 30, 33, 37, 41, 57, 63, 71, 72, 73, 74, 86] fun K hK => ?_
  simp [encSer_eq, encIsss_eq, encIss_eq]
  try simp (disch := omega) only [wrap_i64]
  repeat refine ⟨by first | omega | assumption | (simp only [maxLen]; omega) | (intros; omega) | decide, ?_⟩
  refine hK _ ?_
  clear hK K
  refine AWp.seq ?_
  refine AWp.cond rfl (fun h20 => ?_) (fun h20 => ?_)
  · try simp at h20
    obtain ⟨x, hx, hxx, hd⟩ := at_indexG (l := s.iss) h20
    rw [hd] at hs
    refine AWp.skip ?_
    repeat first | refine thenN ?_ | refine thenX ?_ | refine thenR ?_ | refine blockN ?_ | refine blockR ?_ | refine blockX ?_ | refine blockM rfl ?_
    refine AWp.seq ?_
    refine AWp.block ?_
    -- region 4
    refine AWp.rseq E_ok [0, 1, 2, 3, 6, 7, 8, 9, 10, 12, 13, 14, 15, 17, 18, 19, 20, 26, 30, 33, 37, 41, 57, 63, 71, 72, 73, 74, 86] fun K hK => ?_
    simp [encSer_eq, encIsss_eq, encIss_eq, h20, hx, hxx]
    try simp (disch := omega) only [wrap_i64]
    repeat refine ⟨by first | omega | assumption | (simp only [maxLen]; omega) | (intros; omega) | decide, ?_⟩
    refine hK _ ?_
    clear hK K
    refine AWp.seq ?_
    -- region 5
    refine AWp.rseq E_ok [0, 1, 2, 3, 6, 7, 8, 9, 10, 12, 13, 14, 15, 17, 18, 19, 20, 26, 30, 33, 37, 41, 57, 63, 71, 72, 73, 74, 86] fun K hK => ?_
    simp [encSer_eq, encIsss_eq, encIss_eq, h20, hx, hxx]
    try simp (disch := omega) only [wrap_i64]
    repeat refine ⟨by first | omega | assumption | (simp only [maxLen]; omega) | (intros; omega) | decide, ?_⟩
    refine hK _ ?_
    clear hK K
    refine AWp.cond rfl (fun h26 => ?_) (fun h26 => ?_)
    · try simp at h26
      rw [bndF, if_neg (by omega)] at hs
      refine AWp.exit ?_
      repeat first | refine thenN ?_ | refine thenX ?_ | refine thenR ?_ | refine blockN ?_ | refine blockR ?_ | refine blockX ?_ | refine blockM rfl ?_
      -- region 12
      refine AWp.rend E_ok [0, 1, 2, 3, 6, 7, 8, 9, 10, 12, 13, 14, 15, 17, 18, 19, 20, 26, 30, 33, 37, 41, 57, 63, 71, 72, 73, 74, 86] fun K hK => ?_
      simp [encSer_eq, encIsss_eq, encIss_eq, h20, hx, hxx]
      try simp (disch := omega) only [wrap_i64]
      repeat refine ⟨by first | omega | assumption | (simp only [maxLen]; omega) | (intros; omega) | decide, ?_⟩
      refine hK _ ?_
      clear hK K
      repeat first | refine thenN ?_ | refine thenX ?_ | refine thenR ?_ | refine blockN ?_ | refine blockR ?_ | refine blockX ?_ | refine blockM rfl ?_
      have hw : IntKind.i64.wrap ((k : Int) + 1) = (k : Int) + 1 := by rw [wrap_i64] <;> omega
      skip
      refine ⟨_, h20, hs, ?_, ?_⟩
      · omega
      · simp [Weak, TW, hw, encSer_eq, encIsss_eq, encIss_eq]
    · try simp at h26
      rw [bndF, if_pos (by omega)] at hs
      refine AWp.skip ?_
      repeat first | refine thenN ?_ | refine thenX ?_ | refine thenR ?_ | refine blockN ?_ | refine blockR ?_ | refine blockX ?_ | refine blockM rfl ?_
      -- region 6
      refine AWp.rseq E_ok [0, 1, 2, 3, 6, 7, 8, 9, 10, 12, 13, 14, 15, 17, 18, 19, 20, 26, 30, 33, 37, 41, 57, 63, 71, 72, 73, 74, 86] fun K hK => ?_
      simp [encSer_eq, encIsss_eq, encIss_eq, h20, hx, hxx]
      try simp (disch := omega) only [wrap_i64]
      repeat refine ⟨by first | omega | assumption | (simp only [maxLen]; omega) | (intros; omega) | decide, ?_⟩
      refine hK _ ?_
      clear hK K
      -- region 7
      refine AWp.rseq E_ok [0, 1, 2, 3, 6, 7, 8, 9, 10, 12, 13, 14, 15, 17, 18, 19, 20, 26, 30, 33, 37, 41, 57, 63, 71, 72, 73, 74, 86] fun K hK => ?_
      simp [encSer_eq, encIsss_eq, encIss_eq, h20, hx, hxx]
      try simp (disch := omega) only [wrap_i64]
      repeat refine ⟨by first | omega | assumption | (simp only [maxLen]; omega) | (intros; omega) | decide, ?_⟩
      refine hK _ ?_
      clear hK K
      refine AWp.block ?_
      -- region 9
      refine AWp.rseq E_ok [0, 1, 2, 3, 6, 7, 8, 9, 10, 12, 13, 14, 15, 17, 18, 19, 20, 26, 30, 33, 37, 41, 57, 63, 71, 72, 73, 74, 86] fun K hK => ?_
      simp [encSer_eq, encIsss_eq, encIss_eq, h20, hx, hxx]
      try simp (disch := omega) only [wrap_i64]
      repeat refine ⟨by first | omega | assumption | (simp only [maxLen]; omega) | (intros; omega) | decide, ?_⟩
      refine hK _ ?_
      clear hK K
      refine AWp.cond rfl (fun h33 => ?_) (fun h33 => ?_)
      · try simp at h33
        rw [if_pos (by omega)] at hs
        -- region 10
        refine AWp.rend E_ok [0, 1, 2, 3, 6, 7, 8, 9, 10, 12, 13, 14, 15, 17, 18, 19, 20, 26, 30, 33, 37, 41, 57, 63, 71, 72, 73, 74, 86] fun K hK => ?_
        simp [encSer_eq, encIsss_eq, encIss_eq, h20, hx, hxx]
        try simp (disch := omega) only [wrap_i64]
        repeat refine ⟨by first | omega | assumption | (simp only [maxLen]; omega) | (intros; omega) | decide, ?_⟩
        refine hK _ ?_
        clear hK K
        repeat first | refine thenN ?_ | refine thenX ?_ | refine thenR ?_ | refine blockN ?_ | refine blockR ?_ | refine blockX ?_ | refine blockM rfl ?_
        -- region 12
        refine AWp.rend E_ok [0, 1, 2, 3, 6, 7, 8, 9, 10, 12, 13, 14, 15, 17, 18, 19, 20, 26, 30, 33, 37, 41, 57, 63, 71, 72, 73, 74, 86] fun K hK => ?_
        simp [encSer_eq, encIsss_eq, encIss_eq, h20, hx, hxx]
        try simp (disch := omega) only [wrap_i64]
        repeat refine ⟨by first | omega | assumption | (simp only [maxLen]; omega) | (intros; omega) | decide, ?_⟩
        refine hK _ ?_
        clear hK K
        repeat first | refine thenN ?_ | refine thenX ?_ | refine thenR ?_ | refine blockN ?_ | refine blockR ?_ | refine blockX ?_ | refine blockM rfl ?_
        have hw : IntKind.i64.wrap ((k : Int) + 1) = (k : Int) + 1 := by rw [wrap_i64] <;> omega
        skip
        refine ⟨_, h20, hs, ?_, ?_⟩
        · omega
        · simp [Weak, TW, hw, encSer_eq, encIsss_eq, encIss_eq]
      · try simp at h33
        rw [if_neg (by omega)] at hs
        -- region 11
        refine AWp.rseq E_ok [0, 1, 2, 3, 6, 7, 8, 9, 10, 12, 13, 14, 15, 17, 18, 19, 20, 26, 30, 33, 37, 41, 57, 63, 71, 72, 73, 74, 86] fun K hK => ?_
        simp [encSer_eq, encIsss_eq, encIss_eq, h20, hx, hxx]
        try simp (disch := omega) only [wrap_i64]
        repeat refine ⟨by first | omega | assumption | (simp only [maxLen]; omega) | (intros; omega) | decide, ?_⟩
        refine hK _ ?_
        clear hK K
        refine AWp.cond rfl (fun h37 => ?_) (fun h37 => ?_)
        · try simp at h37
          rw [if_pos (by omega)] at hs
          refine AWp.skip ?_
          repeat first | refine thenN ?_ | refine thenX ?_ | refine thenR ?_ | refine blockN ?_ | refine blockR ?_ | refine blockX ?_ | refine blockM rfl ?_
          -- region 12
          refine AWp.rend E_ok [0, 1, 2, 3, 6, 7, 8, 9, 10, 12, 13, 14, 15, 17, 18, 19, 20, 26, 30, 33, 37, 41, 57, 63, 71, 72, 73, 74, 86] fun K hK => ?_
          simp [encSer_eq, encIsss_eq, encIss_eq, h20, hx, hxx]
          try simp (disch := omega) only [wrap_i64]
          repeat refine ⟨by first | omega | assumption | (simp only [maxLen]; omega) | (intros; omega) | decide, ?_⟩
          refine hK _ ?_
          clear hK K
          repeat first | refine thenN ?_ | refine thenX ?_ | refine thenR ?_ | refine blockN ?_ | refine blockR ?_ | refine blockX ?_ | refine blockM rfl ?_
          have hw : IntKind.i64.wrap ((k : Int) + 1) = (k : Int) + 1 := by rw [wrap_i64] <;> omega
          skip
          refine ⟨_, h20, hs, ?_, ?_⟩
          · omega
          · simp [Weak, TW, hw, encSer_eq, encIsss_eq, encIss_eq]
        · try simp at h37
          rw [if_neg (by omega)] at hs
          -- region 8
          refine AWp.rend E_ok [0, 1, 2, 3, 6, 7, 8, 9, 10, 12, 13, 14, 15, 17, 18, 19, 20, 26, 30, 33, 37, 41, 57, 63, 71, 72, 73, 74, 86] fun K hK => ?_
          simp [encSer_eq, encIsss_eq, encIss_eq, h20, hx, hxx]
          try simp (disch := omega) only [wrap_i64]
          repeat refine ⟨by first | omega | assumption | (simp only [maxLen]; omega) | (intros; omega) | decide, ?_⟩
          refine hK _ ?_
          clear hK K
          repeat first | refine thenN ?_ | refine thenX ?_ | refine thenR ?_ | refine blockN ?_ | refine blockR ?_ | refine blockX ?_ | refine blockM rfl ?_
          -- region 12
          refine AWp.rend E_ok [0, 1, 2, 3, 6, 7, 8, 9, 10, 12, 13, 14, 15, 17, 18, 19, 20, 26, 30, 33, 37, 41, 57, 63, 71, 72, 73, 74, 86] fun K hK => ?_
          simp [encSer_eq, encIsss_eq, encIss_eq, h20, hx, hxx]
          try simp (disch := omega) only [wrap_i64]
          repeat refine ⟨by first | omega | assumption | (simp only [maxLen]; omega) | (intros; omega) | decide, ?_⟩
          refine hK _ ?_
          clear hK K
          repeat first | refine thenN ?_ | refine thenX ?_ | refine thenR ?_ | refine blockN ?_ | refine blockR ?_ | refine blockX ?_ | refine blockM rfl ?_
          have hw : IntKind.i64.wrap ((k : Int) + 1) = (k : Int) + 1 := by rw [wrap_i64] <;> omega
          skip
          refine ⟨_, h20, hs, ?_, ?_⟩
          · omega
          · simp [Weak, TW, hw, encSer_eq, encIsss_eq, encIss_eq]
  · try simp at h20
    obtain rfl : k = s.iss.length := by omega
    simp [bndF] at hs
    refine AWp.exit ?_
    repeat first | refine thenN ?_ | refine thenX ?_ | refine thenR ?_ | refine blockN ?_ | refine blockR ?_ | refine blockX ?_ | refine blockM rfl ?_
    refine AWp.seq ?_
    -- region 13
    refine AWp.rseq E_ok [0, 1, 2, 3, 6, 7, 8, 9, 10, 12, 13, 14, 15, 17, 18, 19, 20, 26, 30, 33, 37, 41, 57, 63, 71, 72, 73, 74, 86] fun K hK => ?_
    simp [encSer_eq, encIsss_eq, encIss_eq, h20]
    try simp (disch := omega) only [wrap_i64]
    repeat refine ⟨by first | omega | assumption | (simp only [maxLen]; omega) | (intros; omega) | decide, ?_⟩
    refine hK _ ?_
    clear hK K
    refine AWp.cond rfl (fun h41 => ?_) (fun h41 => ?_)
    · try simp at h41
      have hb : bindR s v it = (zSer, 9) := by unfold bindR; rw [← hs, if_pos h41]
      -- region 14
      refine AWp.rseq E_ok [0, 1, 2, 3, 6, 7, 8, 9, 10, 12, 13, 14, 15, 17, 18, 19, 20, 26, 30, 33, 37, 41, 57, 63, 71, 72, 73, 74, 86] fun K hK => ?_
      simp [encSer_eq, encIsss_eq, encIss_eq, h20]
      try simp (disch := omega) only [wrap_i64]
      repeat refine ⟨by first | omega | assumption | (simp only [maxLen]; omega) | (intros; omega) | decide, ?_⟩
      refine hK _ ?_
      clear hK K
      refine AWp.ret ?_
      repeat first | refine thenN ?_ | refine thenX ?_ | refine thenR ?_ | refine blockN ?_ | refine blockR ?_ | refine blockX ?_ | refine blockM rfl ?_
      simp [RetOk, RV, RVs, hb, zSer, zPat, encSer_eq, encInts_eq, encIsss_eq, encIss_eq, zIss]
    · try simp at h41
      refine AWp.skip ?_
      repeat first | refine thenN ?_ | refine thenX ?_ | refine thenR ?_ | refine blockN ?_ | refine blockR ?_ | refine blockX ?_ | refine blockM rfl ?_
      refine AWp.seq ?_
      -- region 15
      refine AWp.rseq E_ok [0, 1, 2, 3, 6, 7, 8, 9, 10, 12, 13, 14, 15, 17, 18, 19, 20, 26, 30, 33, 37, 41, 57, 63, 71, 72, 73, 74, 86] fun K hK => ?_
      simp [encSer_eq, encIsss_eq, encIss_eq, h20]
      try simp (disch := omega) only [wrap_i64]
      repeat refine ⟨by first | omega | assumption | (simp only [maxLen]; omega) | (intros; omega) | decide, ?_⟩
      refine meet.of (serial_find s v s.pat.per) ?_
      simp [encSer_eq, encIsss_eq, encIss_eq, h20]
      try simp (disch := omega) only [wrap_i64]
      repeat refine ⟨by first | omega | assumption | (simp only [maxLen]; omega) | (intros; omega) | decide, ?_⟩
      refine hK _ ?_
      clear hK K
      refine AWp.cond rfl (fun h57 => ?_) (fun h57 => ?_)
      · try simp at h57
        have hb : bindR s v it = (zSer, 12) := by unfold bindR; rw [← hs, if_neg (by omega), if_pos (by simp only; omega)]
        -- region 16
        refine AWp.rseq E_ok [0, 1, 2, 3, 6, 7, 8, 9, 10, 12, 13, 14, 15, 17, 18, 19, 20, 26, 30, 33, 37, 41, 57, 63, 71, 72, 73, 74, 86] fun K hK => ?_
        simp [encSer_eq, encIsss_eq, encIss_eq, h20]
        try simp (disch := omega) only [wrap_i64]
        repeat refine ⟨by first | omega | assumption | (simp only [maxLen]; omega) | (intros; omega) | decide, ?_⟩
        refine hK _ ?_
        clear hK K
        refine AWp.ret ?_
        repeat first | refine thenN ?_ | refine thenX ?_ | refine thenR ?_ | refine blockN ?_ | refine blockR ?_ | refine blockX ?_ | refine blockM rfl ?_
        simp [RetOk, RV, RVs, hb, zSer, zPat, encSer_eq, encInts_eq, encIsss_eq, encIss_eq, zIss]
      · try simp at h57
        refine AWp.skip ?_
        repeat first | refine thenN ?_ | refine thenX ?_ | refine thenR ?_ | refine blockN ?_ | refine blockR ?_ | refine blockX ?_ | refine blockM rfl ?_
        refine AWp.seq ?_
        -- region 17
        refine AWp.rseq E_ok [0, 1, 2, 3, 6, 7, 8, 9, 10, 12, 13, 14, 15, 17, 18, 19, 20, 26, 30, 33, 37, 41, 57, 63, 71, 72, 73, 74, 86] fun K hK => ?_
        simp [encSer_eq, encIsss_eq, encIss_eq, h20]
        try simp (disch := omega) only [wrap_i64]
        repeat refine ⟨by first | omega | assumption | (simp only [maxLen]; omega) | (intros; omega) | decide, ?_⟩
        refine meet.of (serial_checkItem s it) ?_
        simp [encSer_eq, encIsss_eq, encIss_eq, h20]
        try simp (disch := omega) only [wrap_i64]
        repeat refine ⟨by first | omega | assumption | (simp only [maxLen]; omega) | (intros; omega) | decide, ?_⟩
        refine hK _ ?_
        clear hK K
        -- region 18
        refine AWp.rseq E_ok [0, 1, 2, 3, 6, 7, 8, 9, 10, 12, 13, 14, 15, 17, 18, 19, 20, 26, 30, 33, 37, 41, 57, 63, 71, 72, 73, 74, 86] fun K hK => ?_
        simp [encSer_eq, encIsss_eq, encIss_eq, h20]
        try simp (disch := omega) only [wrap_i64]
        repeat refine ⟨by first | omega | assumption | (simp only [maxLen]; omega) | (intros; omega) | decide, ?_⟩
        refine hK _ ?_
        clear hK K
        refine AWp.cond rfl (fun h63 => ?_) (fun h63 => ?_)
        · try simp at h63
          have hb : bindR s v it = (zSer, itemR s.iss it) := by unfold bindR; rw [← hs, if_neg (by omega), if_neg (by simp only; omega), if_pos h63]
          -- region 19
          refine AWp.rseq E_ok [0, 1, 2, 3, 6, 7, 8, 9, 10, 12, 13, 14, 15, 17, 18, 19, 20, 26, 30, 33, 37, 41, 57, 63, 71, 72, 73, 74, 86] fun K hK => ?_
          simp [encSer_eq, encIsss_eq, encIss_eq, h20]
          try simp (disch := omega) only [wrap_i64]
          repeat refine ⟨by first | omega | assumption | (simp only [maxLen]; omega) | (intros; omega) | decide, ?_⟩
          refine hK _ ?_
          clear hK K
          refine AWp.ret ?_
          repeat first | refine thenN ?_ | refine thenX ?_ | refine thenR ?_ | refine blockN ?_ | refine blockR ?_ | refine blockX ?_ | refine blockM rfl ?_
          simp [RetOk, RV, RVs, hb, zSer, zPat, encSer_eq, encInts_eq, encIsss_eq, encIss_eq, zIss]
        · try simp at h63
          have hb : bindR s v it = (⟨s.rcd, s.pat, s.next, s.iss.map (bnd v it)⟩, 0) := by unfold bindR; rw [← hs, if_neg (by omega), if_neg (by simp only; omega), if_neg (by omega)]
          refine AWp.skip ?_
          repeat first | refine thenN ?_ | refine thenX ?_ | refine thenR ?_ | refine blockN ?_ | refine blockR ?_ | refine blockX ?_ | refine blockM rfl ?_
          -- region 20
          refine AWp.rseq E_ok [0, 1, 2, 3, 6, 7, 8, 9, 10, 12, 13, 14, 15, 17, 18, 19, 20, 26, 30, 33, 37, 41, 57, 63, 71, 72, 73, 74, 86] fun K hK => ?_
          simp [encSer_eq, encIsss_eq, encIss_eq, h20]
          try simp (disch := omega) only [wrap_i64]
          repeat refine ⟨by first | omega | assumption | (simp only [maxLen]; omega) | (intros; omega) | decide, ?_⟩
          refine meet.of (slices_Clone_api_Issue_api_Issue s.iss (by omega)) ?_
          simp [encSer_eq, encIsss_eq, encIss_eq, h20]
          try simp (disch := omega) only [wrap_i64]
          repeat refine ⟨by first | omega | assumption | (simp only [maxLen]; omega) | (intros; omega) | decide, ?_⟩
          refine hK _ ?_
          clear hK K
          refine AWp.seq ?_
          -- region 21
          refine AWp.rseq E_ok [0, 1, 2, 3, 6, 7, 8, 9, 10, 12, 13, 14, 15, 17, 18, 19, 20, 26, 30, 33, 37, 41, 57, 63, 71, 72, 73, 74, 86] fun K hK => ?_
          simp [encSer_eq, encIsss_eq, encIss_eq, h20]
          try simp (disch := omega) only [wrap_i64]
          repeat refine ⟨by first | omega | assumption | (simp only [maxLen]; omega) | (intros; omega) | decide, ?_⟩
          refine hK _ ?_
          clear hK K
          refine AWp.block ?_
          refine AWp.range (l := s.iss) (F := bndL v it) (tot := bndL v it (0, s.iss) s.iss) (fun k2 y => match y with | (i, L) => i = (k2 : Int) ∧ L.length = s.iss.length ∧ L.drop k2 = s.iss.drop k2) (fun k2 y => match y with | (i, L) => [(0, T.val (D.agg [D.int IntKind.i64 s.rcd, D.int IntKind.i64 s.pat.start, D.int IntKind.i64 s.pat.every, D.int IntKind.i64 s.pat.per, D.int IntKind.i64 s.pat.first, encInts s.pat.skip, encInts s.pat.dbl, D.int IntKind.i64 s.next, (D.agg [D.int IntKind.i64 zIss.vol, D.int IntKind.i64 zIss.num, D.int IntKind.i64 zIss.last, D.int IntKind.i64 zIss.day, D.int IntKind.i64 zIss.st, D.int IntKind.i64 zIss.item]).slice (List.map encIss s.iss)])), (1, T.val (D.int IntKind.i64 v)), (2, T.val (D.int IntKind.i64 it)), (3, T.box [C.d (.int .i64 s.rcd), C.d (.int .i64 s.pat.start), C.d (.int .i64 s.pat.every), C.d (.int .i64 s.pat.per), C.d (.int .i64 s.pat.first), C.d (encInts s.pat.skip), C.d (encInts s.pat.dbl), C.d (.int .i64 s.next), C.own true (encIss zIss) (L.map encIss)]), (6, T.box [C.d (D.int IntKind.i64 0), C.d (D.int IntKind.i64 0), C.d (D.int IntKind.i64 0), C.d (D.int IntKind.i64 0), C.d (D.int IntKind.i64 0), C.d ((D.int IntKind.i64 0).slice []), C.d ((D.int IntKind.i64 0).slice []), C.d (D.int IntKind.i64 0), C.d ((D.agg [D.int IntKind.i64 0, D.int IntKind.i64 0, D.int IntKind.i64 0, D.int IntKind.i64 0, D.int IntKind.i64 0, D.int IntKind.i64 0]).slice [])]), (71, T.alias (3, 9)), (72, T.val (D.int IntKind.i64 ↑s.iss.length)), (73, T.val (.int .i64 k2))]) (0, s.iss) ?_ rfl ?_ ?_
          · simp [Weak, TW, encSer_eq, encIsss_eq, encIss_eq]
          · exact ⟨rfl, rfl, rfl⟩
          rintro k2 ⟨i, L⟩ hk2 hs2 hi2
          try simp only at hi2
          -- region 22
          refine AWp.rseq E_ok [0, 1, 2, 3, 6, 7, 8, 9, 10, 12, 13, 14, 15, 17, 18, 19, 20, 26, 30, 33, 37, 41, 57, 63, 71, 72, 73, 74, 86] fun K hK => ?_
          simp [encSer_eq, encIsss_eq, encIss_eq, h20]
          try simp (disch := omega) only [wrap_i64]
          repeat refine ⟨by first | omega | assumption | (simp only [maxLen]; omega) | (intros; omega) | decide, ?_⟩
          refine hK _ ?_
          clear hK K
          refine AWp.seq ?_
          refine AWp.cond rfl (fun h74 => ?_) (fun h74 => ?_)
          · try simp at h74
            obtain ⟨x2, hx2, hxx2, hd2⟩ := at_indexG (l := s.iss) h74
            rw [hd2] at hs2
            have hLx := drop_at hi2.2.2 hx2
            have hLl := hi2.2.1
            have hLk : k2 < L.length := by omega
            have hLy : L[k2]'hLk = x2 := (List.getElem?_eq_some_iff.1 hLx).2
            refine AWp.skip ?_
            repeat first | refine thenN ?_ | refine thenX ?_ | refine thenR ?_ | refine blockN ?_ | refine blockR ?_ | refine blockX ?_ | refine blockM rfl ?_
            refine AWp.seq ?_
            refine AWp.block ?_
            -- region 23
            refine AWp.rseq E_ok [0, 1, 2, 3, 6, 7, 8, 9, 10, 12, 13, 14, 15, 17, 18, 19, 20, 26, 30, 33, 37, 41, 57, 63, 71, 72, 73, 74, 86] fun K hK => ?_
            simp [encSer_eq, encIsss_eq, encIss_eq, h20, h74, hLx, hLl, hLk, hLy, hx2, hxx2]
            try simp (disch := omega) only [wrap_i64]
            repeat refine ⟨by first | omega | assumption | (simp only [maxLen]; omega) | (intros; omega) | decide, ?_⟩
            refine hK _ ?_
            clear hK K
            -- region 24
            refine AWp.rseq E_ok [0, 1, 2, 3, 6, 7, 8, 9, 10, 12, 13, 14, 15, 17, 18, 19, 20, 26, 30, 33, 37, 41, 57, 63, 71, 72, 73, 74, 86] fun K hK => ?_
            simp [encSer_eq, encIsss_eq, encIss_eq, h20, h74, hLx, hLl, hLk, hLy, hx2, hxx2]
            try simp (disch := omega) only [wrap_i64]
            repeat refine ⟨by first | omega | assumption | (simp only [maxLen]; omega) | (intros; omega) | decide, ?_⟩
            refine hK _ ?_
            clear hK K
            refine AWp.cond rfl (fun h86 => ?_) (fun h86 => ?_)
            · try simp at h86
              rw [bndL, if_pos h86, hi2.1, Int.toNat_natCast] at hs2
              -- region 25, every order
              refine AWp.rendS E_ok mixed [0, 1, 2, 3, 6, 7, 8, 9, 10, 12, 13, 14, 15, 17, 18, 19, 20, 26, 30, 33, 37, 41, 57, 63, 71, 72, 73, 74, 86] (n := 13) (l := #[false, false, false, false, false, false, false, false, false, false, false, false, false]) rfl (by kernel_rfl) fun K hK => ?_
              suffices hnext : K [(0, T.val (D.agg [D.int IntKind.i64 s.rcd, D.int IntKind.i64 s.pat.start, D.int IntKind.i64 s.pat.every, D.int IntKind.i64 s.pat.per, D.int IntKind.i64 s.pat.first, encInts s.pat.skip, encInts s.pat.dbl, D.int IntKind.i64 s.next, (D.agg [D.int IntKind.i64 zIss.vol, D.int IntKind.i64 zIss.num, D.int IntKind.i64 zIss.last, D.int IntKind.i64 zIss.day, D.int IntKind.i64 zIss.st, D.int IntKind.i64 zIss.item]).slice (List.map encIss s.iss)])), (1, T.val (D.int IntKind.i64 v)), (2, T.val (D.int IntKind.i64 it)), (3, T.box [C.d (D.int IntKind.i64 s.rcd), C.d (D.int IntKind.i64 s.pat.start), C.d (D.int IntKind.i64 s.pat.every), C.d (D.int IntKind.i64 s.pat.per), C.d (D.int IntKind.i64 s.pat.first), C.d (encInts s.pat.skip), C.d (encInts s.pat.dbl), C.d (D.int IntKind.i64 s.next), C.own true (D.agg [D.int IntKind.i64 zIss.vol, D.int IntKind.i64 zIss.num, D.int IntKind.i64 zIss.last, D.int IntKind.i64 zIss.day, D.int IntKind.i64 zIss.st, D.int IntKind.i64 zIss.item]) ((List.map encIss L).set k2 (D.agg [D.int IntKind.i64 x2.vol, D.int IntKind.i64 x2.num, D.int IntKind.i64 x2.last, D.int IntKind.i64 x2.day, D.int IntKind.i64 (4 : Int), D.int IntKind.i64 it]))]), (6, T.box [C.d (D.int IntKind.i64 (0 : Int)), C.d (D.int IntKind.i64 (0 : Int)), C.d (D.int IntKind.i64 (0 : Int)), C.d (D.int IntKind.i64 (0 : Int)), C.d (D.int IntKind.i64 (0 : Int)), C.d ((D.int IntKind.i64 (0 : Int)).slice []), C.d ((D.int IntKind.i64 (0 : Int)).slice []), C.d (D.int IntKind.i64 (0 : Int)), C.d ((D.agg [D.int IntKind.i64 (0 : Int), D.int IntKind.i64 (0 : Int), D.int IntKind.i64 (0 : Int), D.int IntKind.i64 (0 : Int), D.int IntKind.i64 (0 : Int), D.int IntKind.i64 (0 : Int)]).slice [])]), (7, T.junk), (8, T.junk), (9, T.junk), (10, T.junk), (12, T.junk), (13, T.junk), (14, T.val (D.int IntKind.i64 ↑k2)), (15, T.box [C.d (D.int IntKind.i64 x2.vol), C.d (D.int IntKind.i64 x2.num), C.d (D.int IntKind.i64 x2.last), C.d (D.int IntKind.i64 x2.day), C.d (D.int IntKind.i64 x2.st), C.d (D.int IntKind.i64 x2.item)]), (17, T.junk), (18, T.junk), (19, T.junk), (20, T.junk), (26, T.junk), (30, T.junk), (33, T.junk), (37, T.junk), (41, T.junk), (57, T.junk), (63, T.junk), (71, T.alias (3, 9)), (72, T.val (D.int IntKind.i64 ↑s.iss.length)), (73, T.val (D.int IntKind.i64 ↑k2)), (74, T.val (D.bool true)), (86, T.val (D.bool (x2.vol == v && x2.st == (2 : Int))))] by
                refine contS.cut 0 #[true, true, true, true, true, true, true, true, true, true, true, true, true] [(0, T.val (D.agg [D.int IntKind.i64 s.rcd, D.int IntKind.i64 s.pat.start, D.int IntKind.i64 s.pat.every, D.int IntKind.i64 s.pat.per, D.int IntKind.i64 s.pat.first, encInts s.pat.skip, encInts s.pat.dbl, D.int IntKind.i64 s.next, (D.agg [D.int IntKind.i64 zIss.vol, D.int IntKind.i64 zIss.num, D.int IntKind.i64 zIss.last, D.int IntKind.i64 zIss.day, D.int IntKind.i64 zIss.st, D.int IntKind.i64 zIss.item]).slice (List.map encIss s.iss)])), (1, T.val (D.int IntKind.i64 v)), (2, T.val (D.int IntKind.i64 it)), (3, T.box [C.d (D.int IntKind.i64 s.rcd), C.d (D.int IntKind.i64 s.pat.start), C.d (D.int IntKind.i64 s.pat.every), C.d (D.int IntKind.i64 s.pat.per), C.d (D.int IntKind.i64 s.pat.first), C.d (encInts s.pat.skip), C.d (encInts s.pat.dbl), C.d (D.int IntKind.i64 s.next), C.own true (D.agg [D.int IntKind.i64 zIss.vol, D.int IntKind.i64 zIss.num, D.int IntKind.i64 zIss.last, D.int IntKind.i64 zIss.day, D.int IntKind.i64 zIss.st, D.int IntKind.i64 zIss.item]) ((List.map encIss L).set k2 (D.agg [D.int IntKind.i64 x2.vol, D.int IntKind.i64 x2.num, D.int IntKind.i64 x2.last, D.int IntKind.i64 x2.day, D.int IntKind.i64 (4 : Int), D.int IntKind.i64 it]))]), (6, T.box [C.d (D.int IntKind.i64 (0 : Int)), C.d (D.int IntKind.i64 (0 : Int)), C.d (D.int IntKind.i64 (0 : Int)), C.d (D.int IntKind.i64 (0 : Int)), C.d (D.int IntKind.i64 (0 : Int)), C.d ((D.int IntKind.i64 (0 : Int)).slice []), C.d ((D.int IntKind.i64 (0 : Int)).slice []), C.d (D.int IntKind.i64 (0 : Int)), C.d ((D.agg [D.int IntKind.i64 (0 : Int), D.int IntKind.i64 (0 : Int), D.int IntKind.i64 (0 : Int), D.int IntKind.i64 (0 : Int), D.int IntKind.i64 (0 : Int), D.int IntKind.i64 (0 : Int)]).slice [])]), (14, T.val (D.int IntKind.i64 ↑k2)), (15, T.box [C.d (D.int IntKind.i64 x2.vol), C.d (D.int IntKind.i64 x2.num), C.d (D.int IntKind.i64 x2.last), C.d (D.int IntKind.i64 x2.day), C.d (D.int IntKind.i64 x2.st), C.d (D.int IntKind.i64 x2.item)]), (71, T.alias (3, 9)), (72, T.val (D.int IntKind.i64 ↑s.iss.length)), (73, T.val (D.int IntKind.i64 ↑k2)), (74, T.val (D.bool true)), (86, T.val (D.bool (x2.vol == v && x2.st == (2 : Int))))] ?_ fun h_1_4_9_12_ => ?_
                · skip
                  refine coreS.nil (by kernel_rfl) ?_
                  simpa [encSer_eq, encIsss_eq, encIss_eq] using hnext
                refine contS.cut 1 #[true, true, true, true, true, true, true, true, true, true, true, true, false] [(0, T.val (D.agg [D.int IntKind.i64 s.rcd, D.int IntKind.i64 s.pat.start, D.int IntKind.i64 s.pat.every, D.int IntKind.i64 s.pat.per, D.int IntKind.i64 s.pat.first, encInts s.pat.skip, encInts s.pat.dbl, D.int IntKind.i64 s.next, (D.agg [D.int IntKind.i64 zIss.vol, D.int IntKind.i64 zIss.num, D.int IntKind.i64 zIss.last, D.int IntKind.i64 zIss.day, D.int IntKind.i64 zIss.st, D.int IntKind.i64 zIss.item]).slice (List.map encIss s.iss)])), (1, T.val (D.int IntKind.i64 v)), (2, T.val (D.int IntKind.i64 it)), (3, T.box [C.d (D.int IntKind.i64 s.rcd), C.d (D.int IntKind.i64 s.pat.start), C.d (D.int IntKind.i64 s.pat.every), C.d (D.int IntKind.i64 s.pat.per), C.d (D.int IntKind.i64 s.pat.first), C.d (encInts s.pat.skip), C.d (encInts s.pat.dbl), C.d (D.int IntKind.i64 s.next), C.own true (D.agg [D.int IntKind.i64 zIss.vol, D.int IntKind.i64 zIss.num, D.int IntKind.i64 zIss.last, D.int IntKind.i64 zIss.day, D.int IntKind.i64 zIss.st, D.int IntKind.i64 zIss.item]) ((List.map encIss L).set k2 (D.agg [D.int IntKind.i64 x2.vol, D.int IntKind.i64 x2.num, D.int IntKind.i64 x2.last, D.int IntKind.i64 x2.day, D.int IntKind.i64 (4 : Int), D.int IntKind.i64 x2.item]))]), (6, T.box [C.d (D.int IntKind.i64 (0 : Int)), C.d (D.int IntKind.i64 (0 : Int)), C.d (D.int IntKind.i64 (0 : Int)), C.d (D.int IntKind.i64 (0 : Int)), C.d (D.int IntKind.i64 (0 : Int)), C.d ((D.int IntKind.i64 (0 : Int)).slice []), C.d ((D.int IntKind.i64 (0 : Int)).slice []), C.d (D.int IntKind.i64 (0 : Int)), C.d ((D.agg [D.int IntKind.i64 (0 : Int), D.int IntKind.i64 (0 : Int), D.int IntKind.i64 (0 : Int), D.int IntKind.i64 (0 : Int), D.int IntKind.i64 (0 : Int), D.int IntKind.i64 (0 : Int)]).slice [])]), (14, T.val (D.int IntKind.i64 ↑k2)), (15, T.box [C.d (D.int IntKind.i64 x2.vol), C.d (D.int IntKind.i64 x2.num), C.d (D.int IntKind.i64 x2.last), C.d (D.int IntKind.i64 x2.day), C.d (D.int IntKind.i64 x2.st), C.d (D.int IntKind.i64 x2.item)]), (71, T.alias (3, 9)), (72, T.val (D.int IntKind.i64 ↑s.iss.length)), (73, T.val (D.int IntKind.i64 ↑k2)), (74, T.val (D.bool true)), (86, T.val (D.bool (x2.vol == v && x2.st == (2 : Int)))), (93, T.val (D.int IntKind.i64 it)), (97, T.optr (3, 9) k2 5)] ?_ fun h_1_4_9 => ?_
                · skip
                  refine coreS.step E_ok [12] (by kernel_rfl) (by simp) ?_
                  refine anyS.cons rfl ?_ ?_
                  · skip
                    simp [encSer_eq, encIsss_eq, encIss_eq, h20, h74, hLx, hLl, hLk, hLy, hx2, hxx2]
                    try simp (disch := omega) only [wrap_i64]
                    repeat refine ⟨by first | omega | assumption | (simp only [maxLen]; omega) | (intros; omega) | decide, ?_⟩
                    exact contS.mk (by simp [Weak, TW, T.plain, encSer_eq, encIsss_eq, encIss_eq]) h_1_4_9_12_ (by kernel_rfl)
                  exact anyS.nil
                refine contS.cut 4 #[true, true, true, true, true, true, true, true, true, false, false, false, false] [(0, T.val (D.agg [D.int IntKind.i64 s.rcd, D.int IntKind.i64 s.pat.start, D.int IntKind.i64 s.pat.every, D.int IntKind.i64 s.pat.per, D.int IntKind.i64 s.pat.first, encInts s.pat.skip, encInts s.pat.dbl, D.int IntKind.i64 s.next, (D.agg [D.int IntKind.i64 zIss.vol, D.int IntKind.i64 zIss.num, D.int IntKind.i64 zIss.last, D.int IntKind.i64 zIss.day, D.int IntKind.i64 zIss.st, D.int IntKind.i64 zIss.item]).slice (List.map encIss s.iss)])), (1, T.val (D.int IntKind.i64 v)), (2, T.val (D.int IntKind.i64 it)), (3, T.box [C.d (D.int IntKind.i64 s.rcd), C.d (D.int IntKind.i64 s.pat.start), C.d (D.int IntKind.i64 s.pat.every), C.d (D.int IntKind.i64 s.pat.per), C.d (D.int IntKind.i64 s.pat.first), C.d (encInts s.pat.skip), C.d (encInts s.pat.dbl), C.d (D.int IntKind.i64 s.next), C.own true (D.agg [D.int IntKind.i64 zIss.vol, D.int IntKind.i64 zIss.num, D.int IntKind.i64 zIss.last, D.int IntKind.i64 zIss.day, D.int IntKind.i64 zIss.st, D.int IntKind.i64 zIss.item]) (List.map encIss L)]), (6, T.box [C.d (D.int IntKind.i64 (0 : Int)), C.d (D.int IntKind.i64 (0 : Int)), C.d (D.int IntKind.i64 (0 : Int)), C.d (D.int IntKind.i64 (0 : Int)), C.d (D.int IntKind.i64 (0 : Int)), C.d ((D.int IntKind.i64 (0 : Int)).slice []), C.d ((D.int IntKind.i64 (0 : Int)).slice []), C.d (D.int IntKind.i64 (0 : Int)), C.d ((D.agg [D.int IntKind.i64 (0 : Int), D.int IntKind.i64 (0 : Int), D.int IntKind.i64 (0 : Int), D.int IntKind.i64 (0 : Int), D.int IntKind.i64 (0 : Int), D.int IntKind.i64 (0 : Int)]).slice [])]), (14, T.val (D.int IntKind.i64 ↑k2)), (15, T.box [C.d (D.int IntKind.i64 x2.vol), C.d (D.int IntKind.i64 x2.num), C.d (D.int IntKind.i64 x2.last), C.d (D.int IntKind.i64 x2.day), C.d (D.int IntKind.i64 x2.st), C.d (D.int IntKind.i64 x2.item)]), (71, T.alias (3, 9)), (72, T.val (D.int IntKind.i64 ↑s.iss.length)), (73, T.val (D.int IntKind.i64 ↑k2)), (74, T.val (D.bool true)), (86, T.val (D.bool (x2.vol == v && x2.st == (2 : Int)))), (91, T.alias (3, 9)), (92, T.val (D.int IntKind.i64 ↑k2)), (93, T.val (D.int IntKind.i64 it)), (95, T.optr (3, 9) k2 4)] ?_ fun h_1_4 => ?_
                · skip
                  refine coreS.step E_ok [9] (by kernel_rfl) (by simp) ?_
                  refine anyS.cons rfl ?_ ?_
                  · skip
                    simp [encSer_eq, encIsss_eq, encIss_eq, h20, h74, hLx, hLl, hLk, hLy, hx2, hxx2]
                    try simp (disch := omega) only [wrap_i64]
                    repeat refine ⟨by first | omega | assumption | (simp only [maxLen]; omega) | (intros; omega) | decide, ?_⟩
                    refine contS.now (f' := 3) (l' := #[true, true, true, true, true, true, true, true, true, true, false, false, false]) ?_ rfl (by kernel_rfl)
                    refine coreS.dry E_ok (by kernel_rfl) 10 rfl rfl (by kernel_rfl) (by kernel_rfl) ?_
                    simp [encSer_eq, encIsss_eq, encIss_eq, h20, h74, hLx, hLl, hLk, hLy, hx2, hxx2]
                    try simp (disch := omega) only [wrap_i64]
                    repeat refine ⟨by first | omega | assumption | (simp only [maxLen]; omega) | (intros; omega) | decide, ?_⟩
                    refine contS.now (f' := 2) (l' := #[true, true, true, true, true, true, true, true, true, true, true, false, false]) ?_ rfl (by kernel_rfl)
                    refine coreS.dry E_ok (by kernel_rfl) 11 rfl rfl (by kernel_rfl) (by kernel_rfl) ?_
                    simp [encSer_eq, encIsss_eq, encIss_eq, h20, h74, hLx, hLl, hLk, hLy, hx2, hxx2]
                    try simp (disch := omega) only [wrap_i64]
                    repeat refine ⟨by first | omega | assumption | (simp only [maxLen]; omega) | (intros; omega) | decide, ?_⟩
                    exact contS.mk (by simp [Weak, TW, T.plain, encSer_eq, encIsss_eq, encIss_eq]) h_1_4_9 (by kernel_rfl)
                  exact anyS.nil
                refine contS.cut 4 #[true, true, true, true, false, true, true, true, true, true, false, false, false] [(0, T.val (D.agg [D.int IntKind.i64 s.rcd, D.int IntKind.i64 s.pat.start, D.int IntKind.i64 s.pat.every, D.int IntKind.i64 s.pat.per, D.int IntKind.i64 s.pat.first, encInts s.pat.skip, encInts s.pat.dbl, D.int IntKind.i64 s.next, (D.agg [D.int IntKind.i64 zIss.vol, D.int IntKind.i64 zIss.num, D.int IntKind.i64 zIss.last, D.int IntKind.i64 zIss.day, D.int IntKind.i64 zIss.st, D.int IntKind.i64 zIss.item]).slice (List.map encIss s.iss)])), (1, T.val (D.int IntKind.i64 v)), (2, T.val (D.int IntKind.i64 it)), (3, T.box [C.d (D.int IntKind.i64 s.rcd), C.d (D.int IntKind.i64 s.pat.start), C.d (D.int IntKind.i64 s.pat.every), C.d (D.int IntKind.i64 s.pat.per), C.d (D.int IntKind.i64 s.pat.first), C.d (encInts s.pat.skip), C.d (encInts s.pat.dbl), C.d (D.int IntKind.i64 s.next), C.own true (D.agg [D.int IntKind.i64 zIss.vol, D.int IntKind.i64 zIss.num, D.int IntKind.i64 zIss.last, D.int IntKind.i64 zIss.day, D.int IntKind.i64 zIss.st, D.int IntKind.i64 zIss.item]) ((List.map encIss L).set k2 (D.agg [D.int IntKind.i64 x2.vol, D.int IntKind.i64 x2.num, D.int IntKind.i64 x2.last, D.int IntKind.i64 x2.day, D.int IntKind.i64 (4 : Int), D.int IntKind.i64 x2.item]))]), (6, T.box [C.d (D.int IntKind.i64 (0 : Int)), C.d (D.int IntKind.i64 (0 : Int)), C.d (D.int IntKind.i64 (0 : Int)), C.d (D.int IntKind.i64 (0 : Int)), C.d (D.int IntKind.i64 (0 : Int)), C.d ((D.int IntKind.i64 (0 : Int)).slice []), C.d ((D.int IntKind.i64 (0 : Int)).slice []), C.d (D.int IntKind.i64 (0 : Int)), C.d ((D.agg [D.int IntKind.i64 (0 : Int), D.int IntKind.i64 (0 : Int), D.int IntKind.i64 (0 : Int), D.int IntKind.i64 (0 : Int), D.int IntKind.i64 (0 : Int), D.int IntKind.i64 (0 : Int)]).slice [])]), (14, T.val (D.int IntKind.i64 ↑k2)), (15, T.box [C.d (D.int IntKind.i64 x2.vol), C.d (D.int IntKind.i64 x2.num), C.d (D.int IntKind.i64 x2.last), C.d (D.int IntKind.i64 x2.day), C.d (D.int IntKind.i64 x2.st), C.d (D.int IntKind.i64 x2.item)]), (71, T.alias (3, 9)), (72, T.val (D.int IntKind.i64 ↑s.iss.length)), (73, T.val (D.int IntKind.i64 ↑k2)), (74, T.val (D.bool true)), (86, T.val (D.bool (x2.vol == v && x2.st == (2 : Int)))), (90, T.ptr 3 8), (92, T.val (D.int IntKind.i64 ↑k2)), (93, T.val (D.int IntKind.i64 it))] ?_ fun h_1_9 => ?_
                · skip
                  refine coreS.step E_ok [4] (by kernel_rfl) (by simp) ?_
                  refine anyS.cons rfl ?_ ?_
                  · skip
                    simp [encSer_eq, encIsss_eq, encIss_eq, h20, h74, hLx, hLl, hLk, hLy, hx2, hxx2]
                    try simp (disch := omega) only [wrap_i64]
                    repeat refine ⟨by first | omega | assumption | (simp only [maxLen]; omega) | (intros; omega) | decide, ?_⟩
                    refine contS.now (f' := 3) (l' := #[true, true, true, true, true, true, true, true, true, true, false, false, false]) ?_ rfl (by kernel_rfl)
                    refine coreS.dry E_ok (by kernel_rfl) 10 rfl rfl (by kernel_rfl) (by kernel_rfl) ?_
                    simp [encSer_eq, encIsss_eq, encIss_eq, h20, h74, hLx, hLl, hLk, hLy, hx2, hxx2]
                    try simp (disch := omega) only [wrap_i64]
                    repeat refine ⟨by first | omega | assumption | (simp only [maxLen]; omega) | (intros; omega) | decide, ?_⟩
                    refine contS.now (f' := 2) (l' := #[true, true, true, true, true, true, true, true, true, true, true, false, false]) ?_ rfl (by kernel_rfl)
                    refine coreS.dry E_ok (by kernel_rfl) 11 rfl rfl (by kernel_rfl) (by kernel_rfl) ?_
                    simp [encSer_eq, encIsss_eq, encIss_eq, h20, h74, hLx, hLl, hLk, hLy, hx2, hxx2]
                    try simp (disch := omega) only [wrap_i64]
                    repeat refine ⟨by first | omega | assumption | (simp only [maxLen]; omega) | (intros; omega) | decide, ?_⟩
                    exact contS.mk (by simp [Weak, TW, T.plain, encSer_eq, encIsss_eq, encIss_eq]) h_1_4_9 (by kernel_rfl)
                  exact anyS.nil
                refine contS.cut 5 #[true, true, true, true, false, true, true, true, true, false, false, false, false] [(0, T.val (D.agg [D.int IntKind.i64 s.rcd, D.int IntKind.i64 s.pat.start, D.int IntKind.i64 s.pat.every, D.int IntKind.i64 s.pat.per, D.int IntKind.i64 s.pat.first, encInts s.pat.skip, encInts s.pat.dbl, D.int IntKind.i64 s.next, (D.agg [D.int IntKind.i64 zIss.vol, D.int IntKind.i64 zIss.num, D.int IntKind.i64 zIss.last, D.int IntKind.i64 zIss.day, D.int IntKind.i64 zIss.st, D.int IntKind.i64 zIss.item]).slice (List.map encIss s.iss)])), (1, T.val (D.int IntKind.i64 v)), (2, T.val (D.int IntKind.i64 it)), (3, T.box [C.d (D.int IntKind.i64 s.rcd), C.d (D.int IntKind.i64 s.pat.start), C.d (D.int IntKind.i64 s.pat.every), C.d (D.int IntKind.i64 s.pat.per), C.d (D.int IntKind.i64 s.pat.first), C.d (encInts s.pat.skip), C.d (encInts s.pat.dbl), C.d (D.int IntKind.i64 s.next), C.own true (D.agg [D.int IntKind.i64 zIss.vol, D.int IntKind.i64 zIss.num, D.int IntKind.i64 zIss.last, D.int IntKind.i64 zIss.day, D.int IntKind.i64 zIss.st, D.int IntKind.i64 zIss.item]) (List.map encIss L)]), (6, T.box [C.d (D.int IntKind.i64 (0 : Int)), C.d (D.int IntKind.i64 (0 : Int)), C.d (D.int IntKind.i64 (0 : Int)), C.d (D.int IntKind.i64 (0 : Int)), C.d (D.int IntKind.i64 (0 : Int)), C.d ((D.int IntKind.i64 (0 : Int)).slice []), C.d ((D.int IntKind.i64 (0 : Int)).slice []), C.d (D.int IntKind.i64 (0 : Int)), C.d ((D.agg [D.int IntKind.i64 (0 : Int), D.int IntKind.i64 (0 : Int), D.int IntKind.i64 (0 : Int), D.int IntKind.i64 (0 : Int), D.int IntKind.i64 (0 : Int), D.int IntKind.i64 (0 : Int)]).slice [])]), (14, T.val (D.int IntKind.i64 ↑k2)), (15, T.box [C.d (D.int IntKind.i64 x2.vol), C.d (D.int IntKind.i64 x2.num), C.d (D.int IntKind.i64 x2.last), C.d (D.int IntKind.i64 x2.day), C.d (D.int IntKind.i64 x2.st), C.d (D.int IntKind.i64 x2.item)]), (71, T.alias (3, 9)), (72, T.val (D.int IntKind.i64 ↑s.iss.length)), (73, T.val (D.int IntKind.i64 ↑k2)), (74, T.val (D.bool true)), (86, T.val (D.bool (x2.vol == v && x2.st == (2 : Int)))), (90, T.ptr 3 8), (92, T.val (D.int IntKind.i64 ↑k2)), (93, T.val (D.int IntKind.i64 it)), (95, T.optr (3, 9) k2 4)] ?_ fun h_1 => ?_
                · skip
                  refine coreS.step E_ok [4, 9] (by kernel_rfl) (by simp) ?_
                  refine anyS.cons rfl ?_ ?_
                  · skip
                    simp [encSer_eq, encIsss_eq, encIss_eq, h20, h74, hLx, hLl, hLk, hLy, hx2, hxx2]
                    try simp (disch := omega) only [wrap_i64]
                    repeat refine ⟨by first | omega | assumption | (simp only [maxLen]; omega) | (intros; omega) | decide, ?_⟩
                    exact contS.mk (by simp [Weak, TW, T.plain, encSer_eq, encIsss_eq, encIss_eq]) h_1_4 (by kernel_rfl)
                  refine anyS.cons rfl ?_ ?_
                  · skip
                    simp [encSer_eq, encIsss_eq, encIss_eq, h20, h74, hLx, hLl, hLk, hLy, hx2, hxx2]
                    try simp (disch := omega) only [wrap_i64]
                    repeat refine ⟨by first | omega | assumption | (simp only [maxLen]; omega) | (intros; omega) | decide, ?_⟩
                    exact contS.mk (by simp [Weak, TW, T.plain, encSer_eq, encIsss_eq, encIss_eq]) h_1_9 (by kernel_rfl)
                  exact anyS.nil
                refine contS.cut 7 #[true, false, true, true, true, true, true, false, false, false, false, false, false] [(0, T.val (D.agg [D.int IntKind.i64 s.rcd, D.int IntKind.i64 s.pat.start, D.int IntKind.i64 s.pat.every, D.int IntKind.i64 s.pat.per, D.int IntKind.i64 s.pat.first, encInts s.pat.skip, encInts s.pat.dbl, D.int IntKind.i64 s.next, (D.agg [D.int IntKind.i64 zIss.vol, D.int IntKind.i64 zIss.num, D.int IntKind.i64 zIss.last, D.int IntKind.i64 zIss.day, D.int IntKind.i64 zIss.st, D.int IntKind.i64 zIss.item]).slice (List.map encIss s.iss)])), (1, T.val (D.int IntKind.i64 v)), (2, T.val (D.int IntKind.i64 it)), (3, T.box [C.d (D.int IntKind.i64 s.rcd), C.d (D.int IntKind.i64 s.pat.start), C.d (D.int IntKind.i64 s.pat.every), C.d (D.int IntKind.i64 s.pat.per), C.d (D.int IntKind.i64 s.pat.first), C.d (encInts s.pat.skip), C.d (encInts s.pat.dbl), C.d (D.int IntKind.i64 s.next), C.own true (D.agg [D.int IntKind.i64 zIss.vol, D.int IntKind.i64 zIss.num, D.int IntKind.i64 zIss.last, D.int IntKind.i64 zIss.day, D.int IntKind.i64 zIss.st, D.int IntKind.i64 zIss.item]) (List.map encIss L)]), (6, T.box [C.d (D.int IntKind.i64 (0 : Int)), C.d (D.int IntKind.i64 (0 : Int)), C.d (D.int IntKind.i64 (0 : Int)), C.d (D.int IntKind.i64 (0 : Int)), C.d (D.int IntKind.i64 (0 : Int)), C.d ((D.int IntKind.i64 (0 : Int)).slice []), C.d ((D.int IntKind.i64 (0 : Int)).slice []), C.d (D.int IntKind.i64 (0 : Int)), C.d ((D.agg [D.int IntKind.i64 (0 : Int), D.int IntKind.i64 (0 : Int), D.int IntKind.i64 (0 : Int), D.int IntKind.i64 (0 : Int), D.int IntKind.i64 (0 : Int), D.int IntKind.i64 (0 : Int)]).slice [])]), (14, T.val (D.int IntKind.i64 ↑k2)), (15, T.box [C.d (D.int IntKind.i64 x2.vol), C.d (D.int IntKind.i64 x2.num), C.d (D.int IntKind.i64 x2.last), C.d (D.int IntKind.i64 x2.day), C.d (D.int IntKind.i64 x2.st), C.d (D.int IntKind.i64 x2.item)]), (71, T.alias (3, 9)), (72, T.val (D.int IntKind.i64 ↑s.iss.length)), (73, T.val (D.int IntKind.i64 ↑k2)), (74, T.val (D.bool true)), (86, T.val (D.bool (x2.vol == v && x2.st == (2 : Int)))), (87, T.ptr 3 8), (89, T.val (D.int IntKind.i64 ↑k2)), (91, T.alias (3, 9)), (92, T.val (D.int IntKind.i64 ↑k2)), (93, T.val (D.int IntKind.i64 it))] ?_ fun h_4 => ?_
                · skip
                  refine coreS.step E_ok [1] (by kernel_rfl) (by simp) ?_
                  refine anyS.cons rfl ?_ ?_
                  · skip
                    simp [encSer_eq, encIsss_eq, encIss_eq, h20, h74, hLx, hLl, hLk, hLy, hx2, hxx2]
                    try simp (disch := omega) only [wrap_i64]
                    repeat refine ⟨by first | omega | assumption | (simp only [maxLen]; omega) | (intros; omega) | decide, ?_⟩
                    refine contS.now (f' := 6) (l' := #[true, true, true, true, true, true, true, false, false, false, false, false, false]) ?_ rfl (by kernel_rfl)
                    refine coreS.dry E_ok (by kernel_rfl) 7 rfl rfl (by kernel_rfl) (by kernel_rfl) ?_
                    simp [encSer_eq, encIsss_eq, encIss_eq, h20, h74, hLx, hLl, hLk, hLy, hx2, hxx2]
                    try simp (disch := omega) only [wrap_i64]
                    repeat refine ⟨by first | omega | assumption | (simp only [maxLen]; omega) | (intros; omega) | decide, ?_⟩
                    refine contS.now (f' := 5) (l' := #[true, true, true, true, true, true, true, true, false, false, false, false, false]) ?_ rfl (by kernel_rfl)
                    refine coreS.dry E_ok (by kernel_rfl) 8 rfl rfl (by kernel_rfl) (by kernel_rfl) ?_
                    simp [encSer_eq, encIsss_eq, encIss_eq, h20, h74, hLx, hLl, hLk, hLy, hx2, hxx2]
                    try simp (disch := omega) only [wrap_i64]
                    repeat refine ⟨by first | omega | assumption | (simp only [maxLen]; omega) | (intros; omega) | decide, ?_⟩
                    exact contS.mk (by simp [Weak, TW, T.plain, encSer_eq, encIsss_eq, encIss_eq]) h_1_4 (by kernel_rfl)
                  exact anyS.nil
                refine contS.cut 8 #[true, false, true, true, false, true, true, false, false, false, false, false, false] [(0, T.val (D.agg [D.int IntKind.i64 s.rcd, D.int IntKind.i64 s.pat.start, D.int IntKind.i64 s.pat.every, D.int IntKind.i64 s.pat.per, D.int IntKind.i64 s.pat.first, encInts s.pat.skip, encInts s.pat.dbl, D.int IntKind.i64 s.next, (D.agg [D.int IntKind.i64 zIss.vol, D.int IntKind.i64 zIss.num, D.int IntKind.i64 zIss.last, D.int IntKind.i64 zIss.day, D.int IntKind.i64 zIss.st, D.int IntKind.i64 zIss.item]).slice (List.map encIss s.iss)])), (1, T.val (D.int IntKind.i64 v)), (2, T.val (D.int IntKind.i64 it)), (3, T.box [C.d (D.int IntKind.i64 s.rcd), C.d (D.int IntKind.i64 s.pat.start), C.d (D.int IntKind.i64 s.pat.every), C.d (D.int IntKind.i64 s.pat.per), C.d (D.int IntKind.i64 s.pat.first), C.d (encInts s.pat.skip), C.d (encInts s.pat.dbl), C.d (D.int IntKind.i64 s.next), C.own true (D.agg [D.int IntKind.i64 zIss.vol, D.int IntKind.i64 zIss.num, D.int IntKind.i64 zIss.last, D.int IntKind.i64 zIss.day, D.int IntKind.i64 zIss.st, D.int IntKind.i64 zIss.item]) (List.map encIss L)]), (6, T.box [C.d (D.int IntKind.i64 (0 : Int)), C.d (D.int IntKind.i64 (0 : Int)), C.d (D.int IntKind.i64 (0 : Int)), C.d (D.int IntKind.i64 (0 : Int)), C.d (D.int IntKind.i64 (0 : Int)), C.d ((D.int IntKind.i64 (0 : Int)).slice []), C.d ((D.int IntKind.i64 (0 : Int)).slice []), C.d (D.int IntKind.i64 (0 : Int)), C.d ((D.agg [D.int IntKind.i64 (0 : Int), D.int IntKind.i64 (0 : Int), D.int IntKind.i64 (0 : Int), D.int IntKind.i64 (0 : Int), D.int IntKind.i64 (0 : Int), D.int IntKind.i64 (0 : Int)]).slice [])]), (14, T.val (D.int IntKind.i64 ↑k2)), (15, T.box [C.d (D.int IntKind.i64 x2.vol), C.d (D.int IntKind.i64 x2.num), C.d (D.int IntKind.i64 x2.last), C.d (D.int IntKind.i64 x2.day), C.d (D.int IntKind.i64 x2.st), C.d (D.int IntKind.i64 x2.item)]), (71, T.alias (3, 9)), (72, T.val (D.int IntKind.i64 ↑s.iss.length)), (73, T.val (D.int IntKind.i64 ↑k2)), (74, T.val (D.bool true)), (86, T.val (D.bool (x2.vol == v && x2.st == (2 : Int)))), (87, T.ptr 3 8), (89, T.val (D.int IntKind.i64 ↑k2)), (90, T.ptr 3 8), (92, T.val (D.int IntKind.i64 ↑k2)), (93, T.val (D.int IntKind.i64 it))] ?_ fun h_ => ?_
                · skip
                  refine coreS.step E_ok [1, 4] (by kernel_rfl) (by simp) ?_
                  refine anyS.cons rfl ?_ ?_
                  · skip
                    simp [encSer_eq, encIsss_eq, encIss_eq, h20, h74, hLx, hLl, hLk, hLy, hx2, hxx2]
                    try simp (disch := omega) only [wrap_i64]
                    repeat refine ⟨by first | omega | assumption | (simp only [maxLen]; omega) | (intros; omega) | decide, ?_⟩
                    refine contS.now (f' := 7) (l' := #[true, true, true, true, false, true, true, false, false, false, false, false, false]) ?_ rfl (by kernel_rfl)
                    refine coreS.dry E_ok (by kernel_rfl) 7 rfl rfl (by kernel_rfl) (by kernel_rfl) ?_
                    simp [encSer_eq, encIsss_eq, encIss_eq, h20, h74, hLx, hLl, hLk, hLy, hx2, hxx2]
                    try simp (disch := omega) only [wrap_i64]
                    repeat refine ⟨by first | omega | assumption | (simp only [maxLen]; omega) | (intros; omega) | decide, ?_⟩
                    refine contS.now (f' := 6) (l' := #[true, true, true, true, false, true, true, true, false, false, false, false, false]) ?_ rfl (by kernel_rfl)
                    refine coreS.dry E_ok (by kernel_rfl) 8 rfl rfl (by kernel_rfl) (by kernel_rfl) ?_
                    simp [encSer_eq, encIsss_eq, encIss_eq, h20, h74, hLx, hLl, hLk, hLy, hx2, hxx2]
                    try simp (disch := omega) only [wrap_i64]
                    repeat refine ⟨by first | omega | assumption | (simp only [maxLen]; omega) | (intros; omega) | decide, ?_⟩
                    exact contS.mk (by simp [Weak, TW, T.plain, encSer_eq, encIsss_eq, encIss_eq]) h_1 (by kernel_rfl)
                  refine anyS.cons rfl ?_ ?_
                  · skip
                    simp [encSer_eq, encIsss_eq, encIss_eq, h20, h74, hLx, hLl, hLk, hLy, hx2, hxx2]
                    try simp (disch := omega) only [wrap_i64]
                    repeat refine ⟨by first | omega | assumption | (simp only [maxLen]; omega) | (intros; omega) | decide, ?_⟩
                    exact contS.mk (by simp [Weak, TW, T.plain, encSer_eq, encIsss_eq, encIss_eq]) h_4 (by kernel_rfl)
                  exact anyS.nil
                refine contS.now (f' := 13) (l' := #[false, false, false, false, false, false, false, false, false, false, false, false, false]) ?_ rfl (by kernel_rfl)
                refine coreS.dry E_ok (by kernel_rfl) 0 rfl rfl (by kernel_rfl) (by kernel_rfl) ?_
                simp [encSer_eq, encIsss_eq, encIss_eq, h20, h74, hLx, hLl, hLk, hLy, hx2, hxx2]
                try simp (disch := omega) only [wrap_i64]
                repeat refine ⟨by first | omega | assumption | (simp only [maxLen]; omega) | (intros; omega) | decide, ?_⟩
                refine contS.now (f' := 12) (l' := #[true, false, false, false, false, false, false, false, false, false, false, false, false]) ?_ rfl (by kernel_rfl)
                refine coreS.dry E_ok (by kernel_rfl) 2 rfl rfl (by kernel_rfl) (by kernel_rfl) ?_
                simp [encSer_eq, encIsss_eq, encIss_eq, h20, h74, hLx, hLl, hLk, hLy, hx2, hxx2]
                try simp (disch := omega) only [wrap_i64]
                repeat refine ⟨by first | omega | assumption | (simp only [maxLen]; omega) | (intros; omega) | decide, ?_⟩
                refine contS.now (f' := 11) (l' := #[true, false, true, false, false, false, false, false, false, false, false, false, false]) ?_ rfl (by kernel_rfl)
                refine coreS.dry E_ok (by kernel_rfl) 3 rfl rfl (by kernel_rfl) (by kernel_rfl) ?_
                simp [encSer_eq, encIsss_eq, encIss_eq, h20, h74, hLx, hLl, hLk, hLy, hx2, hxx2]
                try simp (disch := omega) only [wrap_i64]
                repeat refine ⟨by first | omega | assumption | (simp only [maxLen]; omega) | (intros; omega) | decide, ?_⟩
                refine contS.now (f' := 10) (l' := #[true, false, true, true, false, false, false, false, false, false, false, false, false]) ?_ rfl (by kernel_rfl)
                refine coreS.dry E_ok (by kernel_rfl) 5 rfl rfl (by kernel_rfl) (by kernel_rfl) ?_
                simp [encSer_eq, encIsss_eq, encIss_eq, h20, h74, hLx, hLl, hLk, hLy, hx2, hxx2]
                try simp (disch := omega) only [wrap_i64]
                repeat refine ⟨by first | omega | assumption | (simp only [maxLen]; omega) | (intros; omega) | decide, ?_⟩
                refine contS.now (f' := 9) (l' := #[true, false, true, true, false, true, false, false, false, false, false, false, false]) ?_ rfl (by kernel_rfl)
                refine coreS.dry E_ok (by kernel_rfl) 6 rfl rfl (by kernel_rfl) (by kernel_rfl) ?_
                simp [encSer_eq, encIsss_eq, encIss_eq, h20, h74, hLx, hLl, hLk, hLy, hx2, hxx2]
                try simp (disch := omega) only [wrap_i64]
                repeat refine ⟨by first | omega | assumption | (simp only [maxLen]; omega) | (intros; omega) | decide, ?_⟩
                exact contS.mk (by simp [Weak, TW, T.plain, encSer_eq, encIsss_eq, encIss_eq]) h_ (by kernel_rfl)
              refine hK _ ?_
              clear hK K
              repeat first | refine thenN ?_ | refine thenX ?_ | refine thenR ?_ | refine blockN ?_ | refine blockR ?_ | refine blockX ?_ | refine blockM rfl ?_
              -- region 26
              refine AWp.rend E_ok [0, 1, 2, 3, 6, 7, 8, 9, 10, 12, 13, 14, 15, 17, 18, 19, 20, 26, 30, 33, 37, 41, 57, 63, 71, 72, 73, 74, 86] fun K hK => ?_
              simp [encSer_eq, encIsss_eq, encIss_eq, h20, h74, hLx, hLl, hLk, hLy, hx2, hxx2]
              try simp (disch := omega) only [wrap_i64]
              repeat refine ⟨by first | omega | assumption | (simp only [maxLen]; omega) | (intros; omega) | decide, ?_⟩
              refine hK _ ?_
              clear hK K
              repeat first | refine thenN ?_ | refine thenX ?_ | refine thenR ?_ | refine blockN ?_ | refine blockR ?_ | refine blockX ?_ | refine blockM rfl ?_
              have hw2 : IntKind.i64.wrap ((k2 : Int) + 1) = (k2 : Int) + 1 := by rw [wrap_i64] <;> omega
              skip
              refine ⟨_, h74, hs2, ?_, ?_⟩
              · exact ⟨by omega, by (try simp only [List.length_set]); omega, by first | exact drop_set hi2.2.2 | exact drop_one hi2.2.2⟩
              · simp [Weak, TW, hw2, encSer_eq, encIsss_eq, encIss_eq] <;> omega
            · try simp at h86
              rw [bndL, if_neg (by omega)] at hs2
              refine AWp.skip ?_
              repeat first | refine thenN ?_ | refine thenX ?_ | refine thenR ?_ | refine blockN ?_ | refine blockR ?_ | refine blockX ?_ | refine blockM rfl ?_
              -- region 26
              refine AWp.rend E_ok [0, 1, 2, 3, 6, 7, 8, 9, 10, 12, 13, 14, 15, 17, 18, 19, 20, 26, 30, 33, 37, 41, 57, 63, 71, 72, 73, 74, 86] fun K hK => ?_
              simp [encSer_eq, encIsss_eq, encIss_eq, h20, h74, hLx, hLl, hLk, hLy, hx2, hxx2]
              try simp (disch := omega) only [wrap_i64]
              repeat refine ⟨by first | omega | assumption | (simp only [maxLen]; omega) | (intros; omega) | decide, ?_⟩
              refine hK _ ?_
              clear hK K
              repeat first | refine thenN ?_ | refine thenX ?_ | refine thenR ?_ | refine blockN ?_ | refine blockR ?_ | refine blockX ?_ | refine blockM rfl ?_
              have hw2 : IntKind.i64.wrap ((k2 : Int) + 1) = (k2 : Int) + 1 := by rw [wrap_i64] <;> omega
              skip
              refine ⟨_, h74, hs2, ?_, ?_⟩
              · exact ⟨by omega, by (try simp only [List.length_set]); omega, by first | exact drop_set hi2.2.2 | exact drop_one hi2.2.2⟩
              · simp [Weak, TW, hw2, encSer_eq, encIsss_eq, encIss_eq] <;> omega
          · try simp at h74
            obtain rfl : k2 = s.iss.length := by omega
            simp only [List.drop_length, bndL] at hs2
            rw [bndL_eq] at hs2
            subst hs2
            refine AWp.exit ?_
            repeat first | refine thenN ?_ | refine thenX ?_ | refine thenR ?_ | refine blockN ?_ | refine blockR ?_ | refine blockX ?_ | refine blockM rfl ?_
            -- region 27
            refine AWp.rseq E_ok [0, 1, 2, 3, 6, 7, 8, 9, 10, 12, 13, 14, 15, 17, 18, 19, 20, 26, 30, 33, 37, 41, 57, 63, 71, 72, 73, 74, 86] fun K hK => ?_
            simp [encSer_eq, encIsss_eq, encIss_eq, h20, h74]
            try simp (disch := omega) only [wrap_i64]
            repeat refine ⟨by first | omega | assumption | (simp only [maxLen]; omega) | (intros; omega) | decide, ?_⟩
            refine hK _ ?_
            clear hK K
            refine AWp.ret ?_
            repeat first | refine thenN ?_ | refine thenX ?_ | refine thenR ?_ | refine blockN ?_ | refine blockR ?_ | refine blockX ?_ | refine blockM rfl ?_
            simp [RetOk, RV, RVs, hb, zSer, zPat, encSer_eq, encInts_eq, encIsss_eq, encIss_eq, zIss]
end Go.Proofs.Ytceapemkefaicaa

set_option maxRecDepth 100000
set_option linter.unusedSimpArgs false
set_option linter.unusedVariables false
namespace Go.Proofs.Ytceapemkefaicaa
open Go Ab Pl
theorem serial_Claim (s : Ser) (day wait : Int) (hl : s.iss.length ≤ 1000) (hd0 : ∀ x ∈ s.iss, 0 ≤ x.day ∧ x.day ≤ 200000) : ACalls E.P 28 [encSer s, .int .i64 day, .int .i64 wait] (.tup [encSer (claimR s day wait).1, encInts (claimR s day wait).2]) := by
  refine ACalls.intro E_ok Try.func28 rfl rfl Try.ntmps28 Try.results28 (Nat.le_of_ble_eq_true rfl) fun hok base S0 w0 => ?_
  have hm := Ok_i64 (hok (.int .i64 day) (by simp))
  have hm2 := Ok_i64 (hok (.int .i64 wait) (by simp))
  -- region 0
  refine AWp.rseq E_ok [0, 1, 2, 3, 6, 7, 8, 9, 10, 16, 17, 18, 19, 40] fun K hK => ?_
  simp [encSer_eq, encIsss_eq, encIss_eq, encInts_eq]
  try simp (disch := omega) only [wrap_i64]
  repeat refine ⟨by first | omega | assumption | (simp only [maxLen]; omega) | (intros; omega) | decide, ?_⟩
  refine hK _ ?_
  clear hK K
  -- region 1
  refine AWp.rseq E_ok [0, 1, 2, 3, 6, 7, 8, 9, 10, 16, 17, 18, 19, 40] fun K hK => ?_
  simp [encSer_eq, encIsss_eq, encIss_eq, encInts_eq]
  try simp (disch := omega) only [wrap_i64]
  repeat refine ⟨by first | omega | assumption | (simp only [maxLen]; omega) | (intros; omega) | decide, ?_⟩
  refine hK _ ?_
  clear hK K
  -- region 2
  refine AWp.rseq E_ok [0, 1, 2, 3, 6, 7, 8, 9, 10, 16, 17, 18, 19, 40] fun K hK => ?_
  simp [encSer_eq, encIsss_eq, encIss_eq, encInts_eq]
  try simp (disch := omega) only [wrap_i64]
  repeat refine ⟨by first | omega | assumption | (simp only [maxLen]; omega) | (intros; omega) | decide, ?_⟩
  refine meet.of (slices_Clone_api_Issue_api_Issue s.iss (by omega)) ?_
  simp [encSer_eq, encIsss_eq, encIss_eq, encInts_eq]
  try simp (disch := omega) only [wrap_i64]
  repeat refine ⟨by first | omega | assumption | (simp only [maxLen]; omega) | (intros; omega) | decide, ?_⟩
  refine hK _ ?_
  clear hK K
  refine AWp.seq ?_
  -- region 3
  refine AWp.rseq E_ok [0, 1, 2, 3, 6, 7, 8, 9, 10, 16, 17, 18, 19, 40] fun K hK => ?_
  simp [encSer_eq, encIsss_eq, encIss_eq, encInts_eq]
  try simp (disch := omega) only [wrap_i64]
  repeat refine ⟨by first | omega | assumption | (simp only [maxLen]; omega) | (intros; omega) | decide, ?_⟩
  refine hK _ ?_
  clear hK K
  refine AWp.block ?_
  refine AWp.range (l := s.iss) (F := clmF day wait) (tot := clmF day wait (0, [], s.iss) s.iss) (fun k y => match y with | (i, o, L) => i = (k : Int) ∧ o.length ≤ k ∧ L.length = s.iss.length ∧ L.drop k = s.iss.drop k) (fun k y => match y with | (i, o, L) => [(0, T.val (D.agg [D.int IntKind.i64 s.rcd, D.int IntKind.i64 s.pat.start, D.int IntKind.i64 s.pat.every, D.int IntKind.i64 s.pat.per, D.int IntKind.i64 s.pat.first, (D.int IntKind.i64 0).slice (List.map (D.int IntKind.i64) s.pat.skip), (D.int IntKind.i64 0).slice (List.map (D.int IntKind.i64) s.pat.dbl), D.int IntKind.i64 s.next, (D.agg [D.int IntKind.i64 zIss.vol, D.int IntKind.i64 zIss.num, D.int IntKind.i64 zIss.last, D.int IntKind.i64 zIss.day, D.int IntKind.i64 zIss.st, D.int IntKind.i64 zIss.item]).slice (List.map encIss s.iss)])), (1, T.val (D.int IntKind.i64 day)), (2, T.val (D.int IntKind.i64 wait)), (3, T.box [C.d (.int .i64 s.rcd), C.d (.int .i64 s.pat.start), C.d (.int .i64 s.pat.every), C.d (.int .i64 s.pat.per), C.d (.int .i64 s.pat.first), C.d (encInts s.pat.skip), C.d (encInts s.pat.dbl), C.d (.int .i64 s.next), C.own true (encIss zIss) (L.map encIss)]), (6, T.box [C.d (D.int IntKind.i64 0), C.d (D.int IntKind.i64 0), C.d (D.int IntKind.i64 0), C.d (D.int IntKind.i64 0), C.d (D.int IntKind.i64 0), C.d ((D.int IntKind.i64 0).slice []), C.d ((D.int IntKind.i64 0).slice []), C.d (D.int IntKind.i64 0), C.d ((D.agg [D.int IntKind.i64 0, D.int IntKind.i64 0, D.int IntKind.i64 0, D.int IntKind.i64 0, D.int IntKind.i64 0, D.int IntKind.i64 0]).slice [])]), (8, T.own true (.int .i64 0) (o.map (D.int .i64))), (16, T.alias (3, 9)), (17, T.val (D.int IntKind.i64 ↑s.iss.length)), (18, T.val (.int .i64 k))]) (0, [], s.iss) ?_ rfl ?_ ?_
  · simp [Weak, TW, encSer_eq, encIsss_eq, encIss_eq, encInts_eq]
  · exact ⟨rfl, by simp, rfl, rfl⟩
  rintro k ⟨i, o, L⟩ hk hs hi
  try simp only at hi
  -- region 4
  refine AWp.rseq E_ok [0, 1, 2, 3, 6, 7, 8, 9, 10, 16, 17, 18, 19, 40] fun K hK => ?_
  simp [encSer_eq, encIsss_eq, encIss_eq, encInts_eq]
  try simp (disch := omega) only [wrap_i64]
  repeat refine ⟨by first | omega | assumption | (simp only [maxLen]; omega) | (intros; omega) | decide, ?_⟩
  refine hK _ ?_
  clear hK K
  refine AWp.seq ?_
  refine AWp.cond rfl (fun h19 => ?_) (fun h19 => ?_)
  · try simp at h19
    obtain ⟨x, hx, hxx, hd⟩ := at_indexG (l := s.iss) h19
    rw [hd] at hs
    have hxd := hd0 x (List.mem_of_getElem? hx)
    have hLx := drop_at hi.2.2.2 hx
    have hLl := hi.2.2.1
    have hLk : k < L.length := by omega
    have hLy : L[k]'hLk = x := (List.getElem?_eq_some_iff.1 hLx).2
    refine AWp.skip ?_
    repeat first | refine thenN ?_ | refine thenX ?_ | refine thenR ?_ | refine blockN ?_ | refine blockR ?_ | refine blockX ?_ | refine blockM rfl ?_
    refine AWp.seq ?_
    refine AWp.block ?_
    -- region 5
    refine AWp.rseq E_ok [0, 1, 2, 3, 6, 7, 8, 9, 10, 16, 17, 18, 19, 40] fun K hK => ?_
    simp [encSer_eq, encIsss_eq, encIss_eq, encInts_eq, h19, hLx, hLl, hLk, hLy, hx, hxx]
    try simp (disch := omega) only [wrap_i64]
    repeat refine ⟨by first | omega | assumption | (simp only [maxLen]; omega) | (intros; omega) | decide, ?_⟩
    refine hK _ ?_
    clear hK K
    -- region 6
    refine AWp.rseq E_ok [0, 1, 2, 3, 6, 7, 8, 9, 10, 16, 17, 18, 19, 40] fun K hK => ?_
    simp [encSer_eq, encIsss_eq, encIss_eq, encInts_eq, h19, hLx, hLl, hLk, hLy, hx, hxx]
    try simp (disch := omega) only [wrap_i64]
    repeat refine ⟨by first | omega | assumption | (simp only [maxLen]; omega) | (intros; omega) | decide, ?_⟩
    refine hK _ ?_
    clear hK K
    refine AWp.cond rfl (fun h40 => ?_) (fun h40 => ?_)
    · try simp at h40
      rw [show IntKind.i64.wrap (day - x.day) = day - x.day by rw [wrap_i64] <;> omega] at h40
      have hlt : Late day wait x := by unfold Late; omega
      rw [clmF, if_pos hlt, hi.1, Int.toNat_natCast] at hs
      -- region 7
      refine AWp.rseq E_ok [0, 1, 2, 3, 6, 7, 8, 9, 10, 16, 17, 18, 19, 40] fun K hK => ?_
      simp [encSer_eq, encIsss_eq, encIss_eq, encInts_eq, h19, hLx, hLl, hLk, hLy, hx, hxx]
      try simp (disch := omega) only [wrap_i64]
      repeat refine ⟨by first | omega | assumption | (simp only [maxLen]; omega) | (intros; omega) | decide, ?_⟩
      refine hK _ ?_
      clear hK K
      -- region 8
      refine AWp.rend E_ok [0, 1, 2, 3, 6, 7, 8, 9, 10, 16, 17, 18, 19, 40] fun K hK => ?_
      simp [encSer_eq, encIsss_eq, encIss_eq, encInts_eq, h19, hLx, hLl, hLk, hLy, hx, hxx]
      try simp (disch := omega) only [wrap_i64]
      repeat refine ⟨by first | omega | assumption | (simp only [maxLen]; omega) | (intros; omega) | decide, ?_⟩
      refine hK _ ?_
      clear hK K
      repeat first | refine thenN ?_ | refine thenX ?_ | refine thenR ?_ | refine blockN ?_ | refine blockR ?_ | refine blockX ?_ | refine blockM rfl ?_
      -- region 9
      refine AWp.rend E_ok [0, 1, 2, 3, 6, 7, 8, 9, 10, 16, 17, 18, 19, 40] fun K hK => ?_
      simp [encSer_eq, encIsss_eq, encIss_eq, encInts_eq, h19, hLx, hLl, hLk, hLy, hx, hxx]
      try simp (disch := omega) only [wrap_i64]
      repeat refine ⟨by first | omega | assumption | (simp only [maxLen]; omega) | (intros; omega) | decide, ?_⟩
      refine hK _ ?_
      clear hK K
      repeat first | refine thenN ?_ | refine thenX ?_ | refine thenR ?_ | refine blockN ?_ | refine blockR ?_ | refine blockX ?_ | refine blockM rfl ?_
      have hw : IntKind.i64.wrap ((k : Int) + 1) = (k : Int) + 1 := by rw [wrap_i64] <;> omega
      skip
      refine ⟨_, h19, hs, ?_, ?_⟩
      · exact ⟨by omega, by (try simp only [List.length_append, List.length_singleton]); omega, by (try simp only [List.length_set]); omega, by first | exact drop_set hi.2.2.2 | exact drop_one hi.2.2.2⟩
      · simp [Weak, TW, hw, encSer_eq, encIsss_eq, encIss_eq, encInts_eq] <;> omega
    · try simp at h40
      have hlt : ¬ Late day wait x := fun hh => by unfold Late at hh; have := h40 hh.1 hh.2.1; rw [show IntKind.i64.wrap (day - x.day) = day - x.day by rw [wrap_i64] <;> omega] at this; omega
      rw [clmF, if_neg hlt] at hs
      refine AWp.skip ?_
      repeat first | refine thenN ?_ | refine thenX ?_ | refine thenR ?_ | refine blockN ?_ | refine blockR ?_ | refine blockX ?_ | refine blockM rfl ?_
      -- region 9
      refine AWp.rend E_ok [0, 1, 2, 3, 6, 7, 8, 9, 10, 16, 17, 18, 19, 40] fun K hK => ?_
      simp [encSer_eq, encIsss_eq, encIss_eq, encInts_eq, h19, hLx, hLl, hLk, hLy, hx, hxx]
      try simp (disch := omega) only [wrap_i64]
      repeat refine ⟨by first | omega | assumption | (simp only [maxLen]; omega) | (intros; omega) | decide, ?_⟩
      refine hK _ ?_
      clear hK K
      repeat first | refine thenN ?_ | refine thenX ?_ | refine thenR ?_ | refine blockN ?_ | refine blockR ?_ | refine blockX ?_ | refine blockM rfl ?_
      have hw : IntKind.i64.wrap ((k : Int) + 1) = (k : Int) + 1 := by rw [wrap_i64] <;> omega
      skip
      refine ⟨_, h19, hs, ?_, ?_⟩
      · exact ⟨by omega, by (try simp only [List.length_append, List.length_singleton]); omega, by (try simp only [List.length_set]); omega, by first | exact drop_set hi.2.2.2 | exact drop_one hi.2.2.2⟩
      · simp [Weak, TW, hw, encSer_eq, encIsss_eq, encIss_eq, encInts_eq] <;> omega
  · try simp at h19
    obtain rfl : k = s.iss.length := by omega
    simp [clmF] at hs
    refine AWp.exit ?_
    repeat first | refine thenN ?_ | refine thenX ?_ | refine thenR ?_ | refine blockN ?_ | refine blockR ?_ | refine blockX ?_ | refine blockM rfl ?_
    -- region 10
    refine AWp.rseq E_ok [0, 1, 2, 3, 6, 7, 8, 9, 10, 16, 17, 18, 19, 40] fun K hK => ?_
    simp [encSer_eq, encIsss_eq, encIss_eq, encInts_eq, h19]
    try simp (disch := omega) only [wrap_i64]
    repeat refine ⟨by first | omega | assumption | (simp only [maxLen]; omega) | (intros; omega) | decide, ?_⟩
    refine hK _ ?_
    clear hK K
    refine AWp.ret ?_
    repeat first | refine thenN ?_ | refine thenX ?_ | refine thenR ?_ | refine blockN ?_ | refine blockR ?_ | refine blockX ?_ | refine blockM rfl ?_
    rw [clmF_eq, Prod.mk.injEq] at hs; simp [RetOk, RV, RVs, claimR, encSer_eq, encIsss_eq, encIss_eq, encInts_eq, hs]
end Go.Proofs.Ytceapemkefaicaa

set_option maxRecDepth 100000
set_option linter.unusedSimpArgs false
set_option linter.unusedVariables false
namespace Go.Proofs.Ytceapemkefaicaa
open Go Ab Pl
theorem serial_Gaps (s : Ser) (hl : s.iss.length ≤ 1000) : ACalls E.P 36 [encSer s] (.d (encInts (gapsR s))) := by
  refine ACalls.intro E_ok Try.func36 rfl rfl Try.ntmps36 Try.results36 (Nat.le_of_ble_eq_true rfl) fun hok base S0 w0 => ?_
  -- region 0
  refine AWp.rseq E_ok [0, 1, 2, 3, 4, 5, 7, 8, 9, 10, 21] fun K hK => ?_
  simp [encSer_eq, encIsss_eq, encIss_eq, encInts_eq]
  try simp (disch := omega) only [wrap_i64]
  repeat refine ⟨by first | omega | assumption | (simp only [maxLen]; omega) | (intros; omega) | decide, ?_⟩
  refine hK _ ?_
  clear hK K
  -- region 1
  refine AWp.rseq E_ok [0, 1, 2, 3, 4, 5, 7, 8, 9, 10, 21] fun K hK => ?_
  simp [encSer_eq, encIsss_eq, encIss_eq, encInts_eq]
  try simp (disch := omega) only [wrap_i64]
  repeat refine ⟨by first | omega | assumption | (simp only [maxLen]; omega) | (intros; omega) | decide, ?_⟩
  refine hK _ ?_
  clear hK K
  refine AWp.seq ?_
  -- region 2
  refine AWp.rseq E_ok [0, 1, 2, 3, 4, 5, 7, 8, 9, 10, 21] fun K hK => ?_
  simp [encSer_eq, encIsss_eq, encIss_eq, encInts_eq]
  try simp (disch := omega) only [wrap_i64]
  repeat refine ⟨by first | omega | assumption | (simp only [maxLen]; omega) | (intros; omega) | decide, ?_⟩
  refine hK _ ?_
  clear hK K
  refine AWp.block ?_
  refine AWp.range (l := s.iss) (F := gapsF) (tot := gapsF (0, []) s.iss) (fun k y => match y with | (i, o) => i = (k : Int) ∧ o.length ≤ k) (fun k y => match y with | (i, o) => [(0, T.val (D.agg [D.int IntKind.i64 s.rcd, D.int IntKind.i64 s.pat.start, D.int IntKind.i64 s.pat.every, D.int IntKind.i64 s.pat.per, D.int IntKind.i64 s.pat.first, (D.int IntKind.i64 0).slice (List.map (D.int IntKind.i64) s.pat.skip), (D.int IntKind.i64 0).slice (List.map (D.int IntKind.i64) s.pat.dbl), D.int IntKind.i64 s.next, (D.agg [D.int IntKind.i64 zIss.vol, D.int IntKind.i64 zIss.num, D.int IntKind.i64 zIss.last, D.int IntKind.i64 zIss.day, D.int IntKind.i64 zIss.st, D.int IntKind.i64 zIss.item]).slice (List.map encIss s.iss)])), (3, T.own true (.int .i64 0) (o.map (D.int .i64))), (7, T.val ((D.agg [D.int IntKind.i64 zIss.vol, D.int IntKind.i64 zIss.num, D.int IntKind.i64 zIss.last, D.int IntKind.i64 zIss.day, D.int IntKind.i64 zIss.st, D.int IntKind.i64 zIss.item]).slice (List.map encIss s.iss))), (8, T.val (D.int IntKind.i64 ↑s.iss.length)), (9, T.val (.int .i64 k))]) (0, []) ?_ rfl ?_ ?_
  · simp [Weak, TW, encSer_eq, encIsss_eq, encIss_eq, encInts_eq]
  · first | exact trivial | (simp; omega) | simp
  rintro k ⟨i, o⟩ hk hs hi
  try simp only at hi
  -- region 3
  refine AWp.rseq E_ok [0, 1, 2, 3, 4, 5, 7, 8, 9, 10, 21] fun K hK => ?_
  simp [encSer_eq, encIsss_eq, encIss_eq, encInts_eq]
  try simp (disch := omega) only [wrap_i64]
  repeat refine ⟨by first | omega | assumption | (simp only [maxLen]; omega) | (intros; omega) | decide, ?_⟩
  refine hK _ ?_
  clear hK K
  refine AWp.seq ?_
  refine AWp.cond rfl (fun h10 => ?_) (fun h10 => ?_)
  · try simp at h10
    obtain ⟨x, hx, hxx, hd⟩ := at_indexG (l := s.iss) h10
    rw [hd] at hs
    refine AWp.skip ?_
    repeat first | refine thenN ?_ | refine thenX ?_ | refine thenR ?_ | refine blockN ?_ | refine blockR ?_ | refine blockX ?_ | refine blockM rfl ?_
    refine AWp.seq ?_
    refine AWp.block ?_
    -- region 4
    refine AWp.rseq E_ok [0, 1, 2, 3, 4, 5, 7, 8, 9, 10, 21] fun K hK => ?_
    simp [encSer_eq, encIsss_eq, encIss_eq, encInts_eq, h10, hx, hxx]
    try simp (disch := omega) only [wrap_i64]
    repeat refine ⟨by first | omega | assumption | (simp only [maxLen]; omega) | (intros; omega) | decide, ?_⟩
    refine hK _ ?_
    clear hK K
    -- region 5
    refine AWp.rseq E_ok [0, 1, 2, 3, 4, 5, 7, 8, 9, 10, 21] fun K hK => ?_
    simp [encSer_eq, encIsss_eq, encIss_eq, encInts_eq, h10, hx, hxx]
    try simp (disch := omega) only [wrap_i64]
    repeat refine ⟨by first | omega | assumption | (simp only [maxLen]; omega) | (intros; omega) | decide, ?_⟩
    refine hK _ ?_
    clear hK K
    refine AWp.cond rfl (fun h21 => ?_) (fun h21 => ?_)
    · try simp at h21
      rw [gapsF, if_pos h21] at hs
      -- region 6
      refine AWp.rend E_ok [0, 1, 2, 3, 4, 5, 7, 8, 9, 10, 21] fun K hK => ?_
      simp [encSer_eq, encIsss_eq, encIss_eq, encInts_eq, h10, hx, hxx]
      try simp (disch := omega) only [wrap_i64]
      repeat refine ⟨by first | omega | assumption | (simp only [maxLen]; omega) | (intros; omega) | decide, ?_⟩
      refine hK _ ?_
      clear hK K
      repeat first | refine thenN ?_ | refine thenX ?_ | refine thenR ?_ | refine blockN ?_ | refine blockR ?_ | refine blockX ?_ | refine blockM rfl ?_
      -- region 7
      refine AWp.rend E_ok [0, 1, 2, 3, 4, 5, 7, 8, 9, 10, 21] fun K hK => ?_
      simp [encSer_eq, encIsss_eq, encIss_eq, encInts_eq, h10, hx, hxx]
      try simp (disch := omega) only [wrap_i64]
      repeat refine ⟨by first | omega | assumption | (simp only [maxLen]; omega) | (intros; omega) | decide, ?_⟩
      refine hK _ ?_
      clear hK K
      repeat first | refine thenN ?_ | refine thenX ?_ | refine thenR ?_ | refine blockN ?_ | refine blockR ?_ | refine blockX ?_ | refine blockM rfl ?_
      have hw : IntKind.i64.wrap ((k : Int) + 1) = (k : Int) + 1 := by rw [wrap_i64] <;> omega
      skip
      refine ⟨_, h10, hs, ?_, ?_⟩
      · first | exact trivial | (simp; omega) | simp
      · simp [Weak, TW, hw, encSer_eq, encIsss_eq, encIss_eq, encInts_eq] <;> omega
    · try simp at h21
      rw [gapsF, if_neg (by omega)] at hs
      refine AWp.skip ?_
      repeat first | refine thenN ?_ | refine thenX ?_ | refine thenR ?_ | refine blockN ?_ | refine blockR ?_ | refine blockX ?_ | refine blockM rfl ?_
      -- region 7
      refine AWp.rend E_ok [0, 1, 2, 3, 4, 5, 7, 8, 9, 10, 21] fun K hK => ?_
      simp [encSer_eq, encIsss_eq, encIss_eq, encInts_eq, h10, hx, hxx]
      try simp (disch := omega) only [wrap_i64]
      repeat refine ⟨by first | omega | assumption | (simp only [maxLen]; omega) | (intros; omega) | decide, ?_⟩
      refine hK _ ?_
      clear hK K
      repeat first | refine thenN ?_ | refine thenX ?_ | refine thenR ?_ | refine blockN ?_ | refine blockR ?_ | refine blockX ?_ | refine blockM rfl ?_
      have hw : IntKind.i64.wrap ((k : Int) + 1) = (k : Int) + 1 := by rw [wrap_i64] <;> omega
      skip
      refine ⟨_, h10, hs, ?_, ?_⟩
      · first | exact trivial | (simp; omega) | simp
      · simp [Weak, TW, hw, encSer_eq, encIsss_eq, encIss_eq, encInts_eq] <;> omega
  · try simp at h10
    obtain rfl : k = s.iss.length := by omega
    simp [gapsF] at hs
    refine AWp.exit ?_
    repeat first | refine thenN ?_ | refine thenX ?_ | refine thenR ?_ | refine blockN ?_ | refine blockR ?_ | refine blockX ?_ | refine blockM rfl ?_
    -- region 8
    refine AWp.rseq E_ok [0, 1, 2, 3, 4, 5, 7, 8, 9, 10, 21] fun K hK => ?_
    simp [encSer_eq, encIsss_eq, encIss_eq, encInts_eq, h10]
    try simp (disch := omega) only [wrap_i64]
    repeat refine ⟨by first | omega | assumption | (simp only [maxLen]; omega) | (intros; omega) | decide, ?_⟩
    refine hK _ ?_
    clear hK K
    refine AWp.ret ?_
    repeat first | refine thenN ?_ | refine thenX ?_ | refine thenR ?_ | refine blockN ?_ | refine blockR ?_ | refine blockX ?_ | refine blockM rfl ?_
    rw [gapsF_eq] at hs; simp [RetOk, RV, ← hs, encInts_eq]
end Go.Proofs.Ytceapemkefaicaa

/- Serials: the volumes that are held. -/
namespace Pl
open Go Ab
set_option linter.unusedVariables false
set_option linter.unusedSimpArgs false
structure CovI (p : Pat) (L : List Iss) (k : Nat) (v n : Int) : Prop where
  num : NumI p L k v n
  vf : p.first ≤ v ∧ v ≤ p.first + (k : Int)
  cur : ∀ m : Int, 1 ≤ m → m < n → ∃ (j : Nat) (x : Iss), j < k ∧ L[j]? = some x ∧ Numd v m x
  old : ∀ u : Int, p.first ≤ u → u < v → ∀ m : Int, 1 ≤ m → m ≤ p.per → ∃ (j : Nat) (x : Iss), j < k ∧ L[j]? = some x ∧ Numd u m x
theorem volN_or (p : Pat) (v n : Int) : (p.per < n ∧ volN p v n = v + 1 ∧ numN p n = 1) ∨ (n ≤ p.per ∧ volN p v n = v ∧ numN p n = n) := by
  unfold volN numN
  by_cases h : p.per < n
  · exact .inl ⟨h, if_pos h, if_pos h⟩
  · exact .inr ⟨by omega, if_neg h, if_neg h⟩
theorem CovI.more {p : Pat} {L : List Iss} {k : Nat} {v n e : Int} {x : Iss} (h : CovI p L k v n) (hx : L[k]? = some x) (hv : x.vol = v) (hc : ∀ m : Int, n ≤ m → m < n + e → Numd v m x) (he : 1 ≤ e) (hn : n + e ≤ p.per + 1)
    (hnum : NumI p L (k + 1) (volN p v (n + e)) (numN p (n + e))) : CovI p L (k + 1) (volN p v (n + e)) (numN p (n + e)) := by
  have hv0 := h.vf
  have hnn := h.num.2.2
  have now : ∀ m : Int, 1 ≤ m → m < n + e → ∃ (j : Nat) (x : Iss), j < k + 1 ∧ L[j]? = some x ∧ Numd v m x := fun m h1 h2 => by
    by_cases hm : m < n
    · obtain ⟨j, y, h3, h4, h5⟩ := h.cur m h1 hm; exact ⟨j, y, by omega, h4, h5⟩
    · exact ⟨k, x, by omega, hx, hc m (by omega) h2⟩
  have was : ∀ u : Int, p.first ≤ u → u < v → ∀ m : Int, 1 ≤ m → m ≤ p.per → ∃ (j : Nat) (x : Iss), j < k + 1 ∧ L[j]? = some x ∧ Numd u m x := fun u h1 h2 m h3 h4 => by
    obtain ⟨j, y, h5, h6, h7⟩ := h.old u h1 h2 m h3 h4; exact ⟨j, y, by omega, h6, h7⟩
  rcases volN_or p v (n + e) with ⟨h1, h2, h3⟩ | ⟨h1, h2, h3⟩
  · rw [h2, h3] at hnum ⊢
    refine ⟨hnum, by omega, fun m h4 h5 => by omega, fun u h4 h5 m h6 h7 => ?_⟩
    by_cases hu : u < v
    · exact was u h4 hu m h6 h7
    · obtain rfl : u = v := by omega
      exact now m h6 (by omega)
  · rw [h2, h3] at hnum ⊢
    exact ⟨hnum, by omega, now, was⟩
theorem covI_step {p : Pat} (hp : PatOk p) {L : List Iss} {k : Nat} {v n : Int} {x : Iss} (h : CovI p L k v n) (hx : L[k]? = some x) :
    (x.vol = v ∧ x.num = n) ∧ (x.last = 0 ∨ x.last = n + 1) ∧ ∃ v' n', CovI p L (k + 1) v' n' ∧ (v' = v ∨ v' = v + 1) := by
  have hd : L.drop k = x :: L.drop (k + 1) := by
    obtain ⟨hk, e⟩ := List.getElem?_eq_some_iff.1 hx
    rw [List.drop_eq_getElem_cons hk, e]
  obtain ⟨⟨a1, a2, _⟩, a3⟩ := num_step hp h.num hd
  have hnn := h.num.2.2
  refine ⟨⟨a1, a2⟩, ?_, ?_⟩
  · rcases a3 with h | h
    · exact .inl h.1
    · exact .inr h.1
  · rcases a3 with ⟨b1, b2⟩ | ⟨b1, b2, b3⟩
    · refine ⟨_, _, h.more hx a1 (fun m h1 h2 => ⟨a1, .inl (by omega)⟩) (by omega) (by omega) b2, ?_⟩
      rcases volN_or p v (n + 1) with h | h <;> omega
    · refine ⟨_, _, h.more hx a1 (fun m h1 h2 => ⟨a1, by omega⟩) (by omega) (by omega) b3, ?_⟩
      rcases volN_or p v (n + 2) with h | h <;> omega
theorem covI {p : Pat} (hp : PatOk p) {L : List Iss} (hL : L <+: allI p) : ∀ k : Nat, k ≤ L.length → ∃ v n, CovI p L k v n
  | 0, _ => ⟨p.first, 1, numI_start hp hL, by omega, fun m h1 h2 => by omega, fun u h1 h2 => by omega⟩
  | k + 1, hk => by
    obtain ⟨v, n, h⟩ := covI hp hL k (by omega)
    obtain ⟨_, _, v', n', h', _⟩ := covI_step hp h (x := L[k]) (by simp)
    exact ⟨v', n', h'⟩
/-- the pattern's issues that a serial lists -/
theorem SerOk.pre {s : Ser} (h : SerOk s) {i : Nat} {x : Iss} (hx : s.iss[i]? = some x) : ∃ w, ((allI s.pat).take s.iss.length)[i]? = some w ∧ OkI w x := by
  obtain ⟨w, hw, hok⟩ := h.at' i x hx
  have hi := (List.getElem?_eq_some_iff.1 hx).1
  exact ⟨w, by rw [List.getElem?_take, if_pos hi]; exact hw, hok⟩
theorem SerOk.of_pre {s : Ser} (h : SerOk s) {i : Nat} {w : Iss} (hw : ((allI s.pat).take s.iss.length)[i]? = some w) : ∃ x, s.iss[i]? = some x ∧ OkI w x := by
  rw [List.getElem?_take] at hw
  split at hw
  · rename_i hi
    obtain ⟨w', hw', hok⟩ := h.at' i s.iss[i] (by simp [hi])
    rw [hw] at hw'; cases hw'
    exact ⟨s.iss[i], by simp [hi], hok⟩
  · cases hw
theorem OkI.numd {w x : Iss} (h : OkI w x) {v m : Int} : Numd v m x ↔ Numd v m w := by
  obtain ⟨⟨h1, h2, h3, _⟩, _⟩ := h
  unfold Numd; rw [h1, h2, h3]
theorem SerOk.cov {s : Ser} (h : SerOk s) {v m : Int} (hf : ∃ x ∈ s.iss, Numd v s.pat.per x) (h1 : 1 ≤ m) (h2 : m ≤ s.pat.per) : ∃ y ∈ s.iss, Numd v m y := by
  obtain ⟨x, hx, hn⟩ := hf
  obtain ⟨i, hi⟩ := List.getElem?_of_mem hx
  obtain ⟨w, hw, hok⟩ := h.pre hi
  rw [hok.numd] at hn
  obtain ⟨v', n', hc⟩ := covI h.pat (List.take_prefix s.iss.length (allI s.pat)) i (Nat.le_of_lt (List.getElem?_eq_some_iff.1 hw).1)
  obtain ⟨⟨a1, a2⟩, _⟩ := covI_step h.pat hc hw
  have hv := hn.1
  have back : ∀ {j : Nat} {z : Iss}, ((allI s.pat).take s.iss.length)[j]? = some z → Numd v m z → ∃ y ∈ s.iss, Numd v m y := fun {j z} hz hm => by
    obtain ⟨y, hy, hok'⟩ := h.of_pre hz
    exact ⟨y, List.mem_of_getElem? hy, hok'.numd.2 hm⟩
  by_cases hm : m < n'
  · obtain ⟨j, z, _, h4, h5⟩ := hc.cur m h1 hm
    exact back h4 (by rw [← hv, a1]; exact h5)
  · refine back hw ⟨hv, ?_⟩
    have := hn.2; omega
theorem SerOk.vol {s : Ser} (h : SerOk s) {i : Nat} {x : Iss} (hx : s.iss[i]? = some x) : s.pat.first ≤ x.vol ∧ x.vol ≤ s.pat.first + (i : Int) := by
  obtain ⟨w, hw, hok⟩ := h.pre hx
  obtain ⟨v', n', hc⟩ := covI h.pat (List.take_prefix s.iss.length (allI s.pat)) i (Nat.le_of_lt (List.getElem?_eq_some_iff.1 hw).1)
  obtain ⟨⟨a1, a2⟩, _⟩ := covI_step h.pat hc hw
  have := hc.vf; have := hok.1.1; omega
theorem SerOk.next_vol {s : Ser} (h : SerOk s) {i : Nat} {x y : Iss} (hx : s.iss[i]? = some x) (hy : s.iss[i + 1]? = some y) : y.vol = x.vol ∨ y.vol = x.vol + 1 := by
  obtain ⟨w, hw, hok⟩ := h.pre hx
  obtain ⟨w2, hw2, hok2⟩ := h.pre hy
  obtain ⟨v', n', hc⟩ := covI h.pat (List.take_prefix s.iss.length (allI s.pat)) i (Nat.le_of_lt (List.getElem?_eq_some_iff.1 hw).1)
  obtain ⟨⟨a1, a2⟩, _, v2, n2, hc2, hv2⟩ := covI_step h.pat hc hw
  obtain ⟨⟨b1, b2⟩, _⟩ := covI_step h.pat hc2 hw2
  have := hok.1.1; have := hok2.1.1; omega
/-! the volumes, each once -/
def runsP : Option Int → List Iss → List Int
  | _, [] => []
  | pv, x :: r => if pv = some x.vol then runsP (some x.vol) r else x.vol :: runsP (some x.vol) r
def stepI (H : Int → Bool) (o : List Spn) (v : Int) : List Spn := if H v = false then o else addS o v
def stepR (H : Int → Bool) (c : Int × List Spn) (v : Int) : Int × List Spn :=
  if H v = false then (0, c.2) else if c.1 = 0 then (v, c.2 ++ [⟨v, v⟩]) else (c.1, c.2.dropLast ++ [⟨c.1, v⟩])
def pvAt (l : List Iss) (i : Nat) : Option Int := if 0 < i then some (l.getD (i - 1) zIss).vol else none
theorem hldF_runs (l : List Iss) (per : Int) : ∀ (r : List Iss) (i : Nat) (o : List Spn), l.drop i = r → hldF l per (i, o) r = (runsP (pvAt l i) r).foldl (stepI (heldB l per)) o
  | [], i, o, _ => rfl
  | x :: r, i, o, hd => by
    have hi : l[i]? = some x := by have : (l.drop i)[0]? = some x := by rw [hd]; rfl
                                   rw [List.getElem?_drop] at this; exact this
    have hg : l.getD i zIss = x := by rw [List.getD_eq_getElem?_getD, hi]; rfl
    have hd' : l.drop (i + 1) = r := by rw [← List.drop_drop, hd]; rfl
    have hp : pvAt l (i + 1) = some x.vol := by unfold pvAt; rw [if_pos (by omega), Nat.add_sub_cancel, hg]
    have e1 : hldF l per (i, o) (x :: r) = if (0 < i ∧ (l.getD (i - 1) zIss).vol = x.vol) ∨ heldB l per x.vol = false then hldF l per (i + 1, o) r else hldF l per (i + 1, addS o x.vol) r := rfl
    have e2 : runsP (pvAt l i) (x :: r) = if pvAt l i = some x.vol then runsP (some x.vol) r else x.vol :: runsP (some x.vol) r := rfl
    rw [e1, e2]
    by_cases hc : 0 < i ∧ (l.getD (i - 1) zIss).vol = x.vol
    · have e3 : pvAt l i = some x.vol := by unfold pvAt; rw [if_pos hc.1, hc.2]
      rw [if_pos (.inl hc), if_pos e3, hldF_runs l per r (i + 1) o hd', hp]
    · have e3 : ¬ pvAt l i = some x.vol := by
        unfold pvAt
        split
        · rename_i h0; exact fun e => hc ⟨h0, by simpa using e⟩
        · simp
      rw [if_neg e3, List.foldl_cons]
      by_cases hh : heldB l per x.vol = false
      · rw [if_pos (.inr hh), stepI, if_pos hh, hldF_runs l per r (i + 1) o hd', hp]
      · rw [if_neg (fun e => e.elim hc hh), stepI, if_neg hh, hldF_runs l per r (i + 1) _ hd', hp]
/-- Held, as the document does it -/
def hlrF (l : List Iss) (per : Int) : Nat × Int × List Spn → List Iss → List Spn
  | (_, _, o), [] => o
  | (i, f, o), x :: r =>
    if (i : Int) + 1 = (l.length : Int) ∨ ¬ (l.getD (i + 1) zIss).vol = x.vol then
      if heldB l per x.vol = false then hlrF l per (i + 1, 0, o) r
      else if f = 0 then hlrF l per (i + 1, x.vol, o ++ [⟨x.vol, x.vol⟩]) r
      else hlrF l per (i + 1, f, o.dropLast ++ [⟨f, x.vol⟩]) r
    else hlrF l per (i + 1, f, o) r
theorem hlrF_runs (l : List Iss) (per : Int) : ∀ (r : List Iss) (x : Iss) (i : Nat) (f : Int) (o : List Spn), l.drop i = x :: r →
    hlrF l per (i, f, o) (x :: r) = ((x.vol :: runsP (some x.vol) r).foldl (stepR (heldB l per)) (f, o)).2
  | [], x, i, f, o, hd => by
    have hlen : i + 1 = l.length := by have := congrArg List.length hd; rw [List.length_drop] at this; simp at this; omega
    unfold hlrF
    rw [if_pos (.inl (by omega))]
    simp only [runsP, List.foldl_cons, List.foldl_nil, stepR, hlrF]
    split <;> (try split) <;> rfl
  | y :: r, x, i, f, o, hd => by
    have hd' : l.drop (i + 1) = y :: r := by rw [← List.drop_drop, hd]; rfl
    have hi : l[i + 1]? = some y := by have : (l.drop (i + 1))[0]? = some y := by rw [hd']; rfl
                                       rw [List.getElem?_drop] at this; exact this
    have hg : l.getD (i + 1) zIss = y := by rw [List.getD_eq_getElem?_getD, hi]; rfl
    have hlen : i + 1 < l.length := (List.getElem?_eq_some_iff.1 hi).1
    have ih := fun f o => hlrF_runs l per r y (i + 1) f o hd'
    have e1 : hlrF l per (i, f, o) (x :: y :: r) = if (i : Int) + 1 = (l.length : Int) ∨ ¬ (l.getD (i + 1) zIss).vol = x.vol then
        if heldB l per x.vol = false then hlrF l per (i + 1, 0, o) (y :: r)
        else if f = 0 then hlrF l per (i + 1, x.vol, o ++ [⟨x.vol, x.vol⟩]) (y :: r)
        else hlrF l per (i + 1, f, o.dropLast ++ [⟨f, x.vol⟩]) (y :: r)
      else hlrF l per (i + 1, f, o) (y :: r) := rfl
    have e2 : runsP (some x.vol) (y :: r) = if some x.vol = some y.vol then runsP (some y.vol) r else y.vol :: runsP (some y.vol) r := rfl
    rw [e1, hg, e2]
    by_cases hc : y.vol = x.vol
    · rw [if_neg (by rintro (h | h); omega; exact h hc), ih, if_pos (by rw [hc]), hc]
    · rw [if_pos (.inr hc), if_neg (show ¬ some x.vol = some y.vol from fun e => hc (by simpa using e.symm)), List.foldl_cons]
      by_cases h1 : heldB l per x.vol = false
      · rw [if_pos h1, ih, stepR, if_pos h1]
      · rw [if_neg h1]
        by_cases h2 : f = 0
        · rw [if_pos h2, ih, stepR, if_neg h1, if_pos h2]
        · rw [if_neg h2, ih, stepR, if_neg h1, if_neg h2]
theorem runsP_mem : ∀ (l : List Iss) (pv : Option Int) {v : Int}, v ∈ runsP pv l → ∃ x ∈ l, x.vol = v
  | [], _, v, h => by cases h
  | x :: r, pv, v, h => by
    unfold runsP at h
    split at h
    · obtain ⟨y, h1, h2⟩ := runsP_mem r _ h; exact ⟨y, by simp [h1], h2⟩
    · rcases List.mem_cons.1 h with rfl | h
      · exact ⟨x, by simp, rfl⟩
      · obtain ⟨y, h1, h2⟩ := runsP_mem r _ h; exact ⟨y, by simp [h1], h2⟩
/-- each is one more than the one ahead of it -/
def Ups : Int → List Int → Prop
  | _, [] => True
  | v, x :: l => x = v + 1 ∧ Ups x l
theorem runsP_ups : ∀ (l : List Iss) (v : Int), (∀ (i : Nat) (x y : Iss), l[i]? = some x → l[i + 1]? = some y → y.vol = x.vol ∨ y.vol = x.vol + 1) → (∀ x, l[0]? = some x → x.vol = v ∨ x.vol = v + 1) → Ups v (runsP (some v) l)
  | [], v, _, _ => trivial
  | x :: r, v, h, h0 => by
    have ih := runsP_ups r x.vol (fun i a b ha hb => h (i + 1) a b (by simpa using ha) (by simpa using hb)) (fun y hy => h 0 x y rfl (by simpa using hy))
    unfold runsP
    split
    · rename_i e; simp at e; rw [e]; exact ih
    · rename_i e
      have := h0 x rfl
      have h2 : x.vol = v + 1 := by
        rcases this with h | h
        · exact absurd (by rw [h]) e
        · exact h
      exact ⟨h2, ih⟩
def RelS (v : Int) (f : Int) (o : List Spn) : Prop := (f ≠ 0 → ∃ o0, o = o0 ++ [⟨f, v⟩]) ∧ (f = 0 → ∀ y, o.getLast? = some y → y.til < v)
theorem addS_last {o0 : List Spn} {f v : Int} : addS (o0 ++ [(⟨f, v⟩ : Spn)]) (v + 1) = (o0 ++ [(⟨f, v⟩ : Spn)]).dropLast ++ [(⟨f, v + 1⟩ : Spn)] := by
  unfold addS; simp
theorem addS_new {o : List Spn} {v : Int} (h : ∀ y, o.getLast? = some y → y.til < v) : addS o (v + 1) = o ++ [⟨v + 1, v + 1⟩] := by
  unfold addS
  cases ho : o.getLast? with
  | none => rfl
  | some y => have := h y ho; simp only; rw [if_neg (by omega)]
theorem fold_same (H : Int → Bool) : ∀ (l : List Int) (v f : Int) (o : List Spn), 0 ≤ v → Ups v l → RelS v f o → l.foldl (stepI H) o = (l.foldl (stepR H) (f, o)).2
  | [], v, f, o, _, _, _ => rfl
  | x :: l, v, f, o, hv, hu, hr => by
    obtain ⟨rfl, hu⟩ := hu
    rw [List.foldl_cons, List.foldl_cons]
    by_cases hh : H (v + 1) = false
    · rw [stepI, if_pos hh, stepR, if_pos hh]
      refine fold_same H l (v + 1) 0 o (by omega) hu ⟨fun h => absurd rfl h, fun _ y hy => ?_⟩
      by_cases hf : f = 0
      · have := hr.2 hf y hy; omega
      · obtain ⟨o0, rfl⟩ := hr.1 hf
        simp at hy; subst hy; simp only; omega
    · rw [stepI, if_neg hh, stepR, if_neg hh]
      by_cases hf : f = 0
      · rw [if_pos hf, addS_new (hr.2 hf)]
        exact fold_same H l (v + 1) (v + 1) _ (by omega) hu ⟨fun _ => ⟨o, rfl⟩, fun h => by omega⟩
      · rw [if_neg hf]
        obtain ⟨o0, rfl⟩ := hr.1 hf
        rw [addS_last]
        exact fold_same H l (v + 1) f _ (by omega) hu ⟨fun _ => ⟨_, rfl⟩, fun h => absurd h hf⟩
theorem held_ref {s : Ser} (h : SerOk s) : hlrF s.iss s.pat.per (0, 0, []) s.iss = heldR s := by
  unfold heldR
  rw [hldF_runs s.iss s.pat.per s.iss 0 [] rfl]
  have hfst := h.pat.2.2.2
  cases hl : s.iss with
  | nil => rfl
  | cons x r =>
    rw [← hl]
    have hx : s.iss[0]? = some x := by rw [hl]; rfl
    have hvx := h.vol hx
    have e := hlrF_runs s.iss s.pat.per r x 0 0 [] (by rw [hl]; rfl)
    rw [← hl] at e
    rw [e]
    have e2 : runsP (pvAt s.iss 0) s.iss = x.vol :: runsP (some x.vol) r := by rw [hl]; rfl
    rw [e2]
    symm
    refine fold_same _ _ (x.vol - 1) 0 [] (by omega) ⟨by omega, runsP_ups r x.vol (fun i a b ha hb => ?_) (fun y hy => ?_)⟩ ⟨fun h => absurd rfl h, fun _ y hy => by simp at hy⟩
    · exact h.next_vol (i := i + 1) (by rw [hl]; simpa using ha) (by rw [hl]; simpa using hb)
    · exact h.next_vol (i := 0) hx (by rw [hl]; simpa using hy)
/-- what is known of the volumes that are held -/
def SpnOk (H : Int → Bool) (a b : Int) (y : Spn) : Prop := (a ≤ y.fr ∧ y.fr ≤ y.til ∧ y.til ≤ b) ∧ ∀ v, y.fr ≤ v → v ≤ y.til → H v = true
theorem addS_ok {H : Int → Bool} {a b v : Int} {o : List Spn} (ho : ∀ y ∈ o, SpnOk H a b y) (hv : H v = true) (h1 : a ≤ v) (h2 : v ≤ b) : ∀ y ∈ addS o v, SpnOk H a b y := by
  have one : SpnOk H a b ⟨v, v⟩ := ⟨⟨h1, Int.le_refl _, h2⟩, fun u h3 h4 => by simp only at h3 h4; rw [show u = v by omega]; exact hv⟩
  intro y hy
  unfold addS at hy
  split at hy
  · rename_i z hz
    have hzo := ho z (List.mem_of_getLast? hz)
    split at hy
    · rename_i ez
      rcases List.mem_append.1 hy with hy | hy
      · exact ho y (List.dropLast_subset _ hy)
      · simp at hy; subst hy
        obtain ⟨⟨c1, c2, c3⟩, c4⟩ := hzo
        refine ⟨⟨c1, by simp only; omega, h2⟩, fun u h3 h4 => ?_⟩
        simp only at h3 h4
        by_cases hu : u ≤ z.til
        · exact c4 u h3 hu
        · rw [show u = v by omega]; exact hv
    · rcases List.mem_append.1 hy with hy | hy
      · exact ho y hy
      · simp at hy; subst hy; exact one
  · rcases List.mem_append.1 hy with hy | hy
    · exact ho y hy
    · simp at hy; subst hy; exact one
theorem fold_ok {H : Int → Bool} {a b : Int} : ∀ (l : List Int) (o : List Spn), (∀ v ∈ l, a ≤ v ∧ v ≤ b) → (∀ y ∈ o, SpnOk H a b y) → ∀ y ∈ l.foldl (stepI H) o, SpnOk H a b y
  | [], o, _, ho => ho
  | v :: l, o, hl, ho => by
    rw [List.foldl_cons]
    refine fold_ok l _ (fun u hu => hl u (by simp [hu])) ?_
    have := hl v (by simp)
    unfold stepI
    split
    · exact ho
    · rename_i hh
      exact addS_ok ho (by simpa using hh) this.1 this.2
theorem held_spn {s : Ser} (h : SerOk s) {y : Spn} (hy : y ∈ heldR s) : SpnOk (heldB s.iss s.pat.per) s.pat.first (s.pat.first + (s.iss.length : Int)) y := by
  unfold heldR at hy
  rw [hldF_runs s.iss s.pat.per s.iss 0 [] rfl] at hy
  refine fold_ok _ [] (fun v hv => ?_) (fun z hz => absurd hz (by simp)) y hy
  obtain ⟨x, hx, rfl⟩ := runsP_mem _ _ hv
  obtain ⟨i, hi⟩ := List.getElem?_of_mem hx
  have := h.vol hi
  have := (List.getElem?_eq_some_iff.1 hi).1
  omega
theorem hldF_go (l : List Iss) (per : Int) (i : Nat) (o : List Spn) (x : Iss) (r : List Iss) : hldF l per (i, o) (x :: r) = if (0 < i ∧ (l.getD (i - 1) zIss).vol = x.vol) ∨ heldB l per x.vol = false then hldF l per (i + 1, o) r else hldF l per (i + 1, addS o x.vol) r := rfl
theorem hlrF_go (l : List Iss) (per : Int) (i : Nat) (f : Int) (o : List Spn) (x : Iss) (r : List Iss) : hlrF l per (i, f, o) (x :: r) =
    if (i : Int) + 1 = (l.length : Int) ∨ ¬ (l.getD (i + 1) zIss).vol = x.vol then
      if heldB l per x.vol = false then hlrF l per (i + 1, 0, o) r
      else if f = 0 then hlrF l per (i + 1, x.vol, o ++ [⟨x.vol, x.vol⟩]) r
      else hlrF l per (i + 1, f, o.dropLast ++ [⟨f, x.vol⟩]) r
    else hlrF l per (i + 1, f, o) r := rfl
theorem last_at {o : List Spn} (h : o ≠ []) : ∃ (n : Nat) (z : Spn) (hn : n < o.length), o.length = n + 1 ∧ o[n]? = some z ∧ o[n]'hn = z ∧ z ∈ o ∧ o.dropLast = o.take n ∧ ∀ v, addS o v = if z.til + 1 = v then o.set n ⟨z.fr, v⟩ else o ++ [⟨v, v⟩] := by
  rcases List.eq_nil_or_concat o with rfl | ⟨o0, z, rfl⟩
  · exact absurd rfl h
  · simp only [List.concat_eq_append]
    refine ⟨o0.length, z, by simp, by simp, by simp, by simp, by simp, by simp, fun v => ?_⟩
    unfold addS
    simp
theorem til_set {P : Int → Prop} {o : List Spn} (h : ∀ y ∈ o, P y.til) {n : Nat} {f v : Int} (hv : P v) : ∀ y ∈ o.set n ⟨f, v⟩, P y.til := fun y hy => by
  rcases List.mem_or_eq_of_mem_set hy with hy | rfl
  · exact h y hy
  · exact hv
theorem til_app {P : Int → Prop} {o : List Spn} (h : ∀ y ∈ o, P y.til) {f v : Int} (hv : P v) : ∀ y ∈ o ++ [⟨f, v⟩], P y.til := fun y hy => by
  rcases List.mem_append.1 hy with hy | hy
  · exact h y hy
  · simp at hy; subst hy; exact hv
theorem heldB_iff {l : List Iss} {per v : Int} : heldB l per v = true ↔ (∀ x ∈ l, x.vol = v → x.st = 2 ∨ x.st = 4) ∧ ∃ x ∈ l, Numd v per x := by
  unfold heldB
  rw [Bool.and_eq_true, heldF_iff, decide_eq_true_iff, fndR_pos]
theorem held_num {s : Ser} (h : SerOk s) {v n : Int} (hv : heldB s.iss s.pat.per v = true) (h1 : 1 ≤ n) (h2 : n ≤ s.pat.per) : ∃ y ∈ s.iss, Numd v n y ∧ (y.st = 2 ∨ y.st = 4) := by
  obtain ⟨h3, h4⟩ := heldB_iff.1 hv
  obtain ⟨y, hy, hn⟩ := h.cov h4 h1 h2
  exact ⟨y, hy, hn, h3 y hy hn.1⟩
theorem gap_mem : ∀ {l : List Iss} {i j : Int}, j ∈ gapF i l → ∃ (k : Nat) (x : Iss), j = i + k ∧ l[k]? = some x ∧ (x.st = 5 ∨ x.st = 3)
  | [], i, j, h => by cases h
  | x :: l, i, j, h => by
    unfold gapF at h
    split at h
    · rcases List.mem_cons.1 h with rfl | h
      · exact ⟨0, x, by simp, rfl, by assumption⟩
      · obtain ⟨k, y, h1, h2, h3⟩ := gap_mem h; exact ⟨k + 1, y, by rw [h1]; omega, by simpa using h2, h3⟩
    · obtain ⟨k, y, h1, h2, h3⟩ := gap_mem h; exact ⟨k + 1, y, by rw [h1]; omega, by simpa using h2, h3⟩
theorem gap_held {s : Ser} {v j : Int} (hv : heldB s.iss s.pat.per v = true) (hj : j ∈ gapsR s) : ∃ (k : Nat) (x : Iss), j = (k : Int) ∧ s.iss[k]? = some x ∧ ¬ x.vol = v := by
  obtain ⟨k, x, h1, h2, h3⟩ := gap_mem hj
  refine ⟨k, x, by omega, h2, fun e => ?_⟩
  have := (heldB_iff.1 hv).1 x (List.mem_of_getElem? h2) e
  omega
end Pl

set_option maxRecDepth 100000
set_option linter.unusedSimpArgs false
set_option linter.unusedVariables false
namespace Go.Proofs.Ytceapemkefaicaa
open Go Ab Pl
theorem serial_held (s : Ser) (v : Int) (hl : s.iss.length ≤ 1000) : ACalls E.P 59 [encSer s, .int .i64 v] (.d (.bool (heldB s.iss s.pat.per v))) := by
  refine ACalls.intro E_ok Try.func59 rfl rfl Try.ntmps59 Try.results59 (Nat.le_of_ble_eq_true rfl) fun hok base S0 w0 => ?_
  -- region 0
  refine AWp.rseq E_ok [0, 1, 2, 4, 6, 8, 9, 10, 11, 22] fun K hK => ?_
  simp [encSer_eq, encIsss_eq, encIss_eq]
  repeat refine ⟨by first | omega | assumption | (simp only [maxLen]; omega) | (intros; omega) | decide, ?_⟩
  refine hK _ ?_
  clear hK K
  refine AWp.seq ?_
  -- region 1
  refine AWp.rseq E_ok [0, 1, 2, 4, 6, 8, 9, 10, 11, 22] fun K hK => ?_
  simp [encSer_eq, encIsss_eq, encIss_eq]
  repeat refine ⟨by first | omega | assumption | (simp only [maxLen]; omega) | (intros; omega) | decide, ?_⟩
  refine hK _ ?_
  clear hK K
  refine AWp.block ?_
  refine AWp.range (l := s.iss) (F := heldF v) (tot := heldF v () s.iss) (fun k y => match y with | () => True) (fun k y => match y with | () => [(0, T.val (D.agg [D.int IntKind.i64 s.rcd, D.int IntKind.i64 s.pat.start, D.int IntKind.i64 s.pat.every, D.int IntKind.i64 s.pat.per, D.int IntKind.i64 s.pat.first, encInts s.pat.skip, encInts s.pat.dbl, D.int IntKind.i64 s.next, (D.agg [D.int IntKind.i64 zIss.vol, D.int IntKind.i64 zIss.num, D.int IntKind.i64 zIss.last, D.int IntKind.i64 zIss.day, D.int IntKind.i64 zIss.st, D.int IntKind.i64 zIss.item]).slice (List.map encIss s.iss)])), (1, T.val (D.int IntKind.i64 v)), (2, T.box [C.d (D.int IntKind.i64 s.rcd), C.d (D.int IntKind.i64 s.pat.start), C.d (D.int IntKind.i64 s.pat.every), C.d (D.int IntKind.i64 s.pat.per), C.d (D.int IntKind.i64 s.pat.first), C.d (encInts s.pat.skip), C.d (encInts s.pat.dbl), C.d (D.int IntKind.i64 s.next), C.d ((D.agg [D.int IntKind.i64 zIss.vol, D.int IntKind.i64 zIss.num, D.int IntKind.i64 zIss.last, D.int IntKind.i64 zIss.day, D.int IntKind.i64 zIss.st, D.int IntKind.i64 zIss.item]).slice (List.map encIss s.iss))]), (8, T.val ((D.agg [D.int IntKind.i64 zIss.vol, D.int IntKind.i64 zIss.num, D.int IntKind.i64 zIss.last, D.int IntKind.i64 zIss.day, D.int IntKind.i64 zIss.st, D.int IntKind.i64 zIss.item]).slice (List.map encIss s.iss))), (9, T.val (D.int IntKind.i64 ↑s.iss.length)), (10, T.val (.int .i64 k))]) () ?_ rfl ?_ ?_
  · simp [Weak, TW, encSer_eq, encIsss_eq, encIss_eq]
  · first | exact trivial | (simp; omega) | simp
  rintro k ⟨⟩ hk hs hi
  try simp only at hi
  -- region 2
  refine AWp.rseq E_ok [0, 1, 2, 4, 6, 8, 9, 10, 11, 22] fun K hK => ?_
  simp [encSer_eq, encIsss_eq, encIss_eq]
  repeat refine ⟨by first | omega | assumption | (simp only [maxLen]; omega) | (intros; omega) | decide, ?_⟩
  refine hK _ ?_
  clear hK K
  refine AWp.seq ?_
  refine AWp.cond rfl (fun h11 => ?_) (fun h11 => ?_)
  · try simp at h11
    obtain ⟨x, hx, hxx, hd⟩ := at_indexG (l := s.iss) h11
    rw [hd] at hs
    refine AWp.skip ?_
    repeat first | refine thenN ?_ | refine thenX ?_ | refine thenR ?_ | refine blockN ?_ | refine blockR ?_ | refine blockX ?_ | refine blockM rfl ?_
    refine AWp.seq ?_
    refine AWp.block ?_
    -- region 3
    refine AWp.rseq E_ok [0, 1, 2, 4, 6, 8, 9, 10, 11, 22] fun K hK => ?_
    simp [encSer_eq, encIsss_eq, encIss_eq, h11, hx, hxx]
    repeat refine ⟨by first | omega | assumption | (simp only [maxLen]; omega) | (intros; omega) | decide, ?_⟩
    refine hK _ ?_
    clear hK K
    -- region 4
    refine AWp.rseq E_ok [0, 1, 2, 4, 6, 8, 9, 10, 11, 22] fun K hK => ?_
    simp [encSer_eq, encIsss_eq, encIss_eq, h11, hx, hxx]
    repeat refine ⟨by first | omega | assumption | (simp only [maxLen]; omega) | (intros; omega) | decide, ?_⟩
    refine meet.of (serial_has x) ?_
    simp [encSer_eq, encIsss_eq, encIss_eq, h11, hx, hxx]
    repeat refine ⟨by first | omega | assumption | (simp only [maxLen]; omega) | (intros; omega) | decide, ?_⟩
    refine hK _ ?_
    clear hK K
    refine AWp.cond rfl (fun h22 => ?_) (fun h22 => ?_)
    · try simp at h22
      rw [heldF, if_pos (by simpa using h22)] at hs
      -- region 5
      refine AWp.rseq E_ok [0, 1, 2, 4, 6, 8, 9, 10, 11, 22] fun K hK => ?_
      simp [encSer_eq, encIsss_eq, encIss_eq, h11, hx, hxx]
      repeat refine ⟨by first | omega | assumption | (simp only [maxLen]; omega) | (intros; omega) | decide, ?_⟩
      refine hK _ ?_
      clear hK K
      refine AWp.ret ?_
      repeat first | refine thenN ?_ | refine thenX ?_ | refine thenR ?_ | refine blockN ?_ | refine blockR ?_ | refine blockX ?_ | refine blockM rfl ?_
      simp [RetOk, RV, heldB, ← hs]
    · try simp at h22
      rw [heldF, if_neg (by simpa using h22)] at hs
      refine AWp.skip ?_
      repeat first | refine thenN ?_ | refine thenX ?_ | refine thenR ?_ | refine blockN ?_ | refine blockR ?_ | refine blockX ?_ | refine blockM rfl ?_
      -- region 6
      refine AWp.rend E_ok [0, 1, 2, 4, 6, 8, 9, 10, 11, 22] fun K hK => ?_
      simp [encSer_eq, encIsss_eq, encIss_eq, h11, hx, hxx]
      repeat refine ⟨by first | omega | assumption | (simp only [maxLen]; omega) | (intros; omega) | decide, ?_⟩
      refine hK _ ?_
      clear hK K
      repeat first | refine thenN ?_ | refine thenX ?_ | refine thenR ?_ | refine blockN ?_ | refine blockR ?_ | refine blockX ?_ | refine blockM rfl ?_
      have hw : IntKind.i64.wrap ((k : Int) + 1) = (k : Int) + 1 := by rw [wrap_i64] <;> omega
      skip
      refine ⟨_, h11, hs, ?_, ?_⟩
      · first | exact trivial | (simp; omega) | simp
      · simp [Weak, TW, hw, encSer_eq, encIsss_eq, encIss_eq]
  · try simp at h11
    obtain rfl : k = s.iss.length := by omega
    simp [heldF] at hs
    refine AWp.exit ?_
    repeat first | refine thenN ?_ | refine thenX ?_ | refine thenR ?_ | refine blockN ?_ | refine blockR ?_ | refine blockX ?_ | refine blockM rfl ?_
    -- region 7
    refine AWp.rseq E_ok [0, 1, 2, 4, 6, 8, 9, 10, 11, 22] fun K hK => ?_
    simp [encSer_eq, encIsss_eq, encIss_eq, h11]
    repeat refine ⟨by first | omega | assumption | (simp only [maxLen]; omega) | (intros; omega) | decide, ?_⟩
    refine meet.of (serial_find s v s.pat.per) ?_
    simp [encSer_eq, encIsss_eq, encIss_eq, h11]
    repeat refine ⟨by first | omega | assumption | (simp only [maxLen]; omega) | (intros; omega) | decide, ?_⟩
    refine hK _ ?_
    clear hK K
    refine AWp.ret ?_
    repeat first | refine thenN ?_ | refine thenX ?_ | refine thenR ?_ | refine blockN ?_ | refine blockR ?_ | refine blockX ?_ | refine blockM rfl ?_
    simp [RetOk, RV, heldB, ← hs]
end Go.Proofs.Ytceapemkefaicaa
