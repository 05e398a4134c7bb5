/-
  What the functions compute that the statement reaches: contracts, and the plain laws between them. Conditions stand at each theorem.
-/
import Derived.Test.YtceapemkefaicaaWalkThree
set_option linter.unusedVariables false
set_option linter.unusedSimpArgs false
set_option maxRecDepth 100000
set_option linter.unusedSimpArgs false
set_option linter.unusedVariables false
namespace Go.Proofs.Ytceapemkefaicaa
open Go Ab Pl
set_option maxHeartbeats 4000000 in
theorem serial_Expect (s : Ser) (day : Int) (hp : PatOk s.pat) (hn : 0 ≤ s.next ∧ s.next ≤ 5000) (hl : s.iss.length ≤ 1000) : ACalls E.P 22 [encSer s, .int .i64 day] (.tup [encSer (expR s day).1, .int .i64 (expR s day).2]) := by
  refine ACalls.intro E_ok Try.func22 rfl rfl Try.ntmps22 Try.results22 (Nat.le_of_ble_eq_true rfl) fun hok base S0 w0 => ?_
  have hu := until_rng s.pat day
  have hll := list_len s.pat s.next (untilR s.pat day - s.next)
  -- region 0
  refine AWp.rseq E_ok [0, 1, 2, 4, 5, 6, 14, 17] fun K hK => ?_
  simp [encSer_eq, encIsss_eq, encIss_eq]
  try simp (disch := omega) only [wrap_i64]
  repeat refine ⟨by first | omega | assumption | (simp only [maxLen]; omega) | (intros; omega) | decide, ?_⟩
  refine hK _ ?_
  clear hK K
  -- region 1
  refine AWp.rseq E_ok [0, 1, 2, 4, 5, 6, 14, 17] fun K hK => ?_
  simp [encSer_eq, encIsss_eq, encIss_eq]
  try simp (disch := omega) only [wrap_i64]
  repeat refine ⟨by first | omega | assumption | (simp only [maxLen]; omega) | (intros; omega) | decide, ?_⟩
  refine meet.of (pattern_Until s.pat day hp) ?_
  simp [encSer_eq, encIsss_eq, encIss_eq]
  try simp (disch := omega) only [wrap_i64]
  repeat refine ⟨by first | omega | assumption | (simp only [maxLen]; omega) | (intros; omega) | decide, ?_⟩
  refine hK _ ?_
  clear hK K
  refine AWp.seq ?_
  -- region 2
  refine AWp.rseq E_ok [0, 1, 2, 4, 5, 6, 14, 17] fun K hK => ?_
  simp [encSer_eq, encIsss_eq, encIss_eq]
  try simp (disch := omega) only [wrap_i64]
  repeat refine ⟨by first | omega | assumption | (simp only [maxLen]; omega) | (intros; omega) | decide, ?_⟩
  refine hK _ ?_
  clear hK K
  refine AWp.cond rfl (fun h14 => ?_) (fun h14 => ?_)
  · try simp at h14
    have hb : expR s day = (s, 0) := if_pos h14
    -- region 3
    refine AWp.rseq E_ok [0, 1, 2, 4, 5, 6, 14, 17] fun K hK => ?_
    simp [encSer_eq, encIsss_eq, encIss_eq]
    try simp (disch := omega) only [wrap_i64]
    repeat refine ⟨by first | omega | assumption | (simp only [maxLen]; omega) | (intros; omega) | decide, ?_⟩
    refine hK _ ?_
    clear hK K
    refine AWp.ret ?_
    repeat first | refine thenN ?_ | refine thenX ?_ | refine thenR ?_ | refine blockN ?_ | refine blockR ?_ | refine blockX ?_ | refine blockM rfl ?_
    simp [RetOk, RV, RVs, hb, zSer, zPat, encSer_eq, encInts_eq, encIsss_eq, encIss_eq, zIss]
  · try simp at h14
    refine AWp.skip ?_
    repeat first | refine thenN ?_ | refine thenX ?_ | refine thenR ?_ | refine blockN ?_ | refine blockR ?_ | refine blockX ?_ | refine blockM rfl ?_
    refine AWp.seq ?_
    -- region 4
    refine AWp.rseq E_ok [0, 1, 2, 4, 5, 6, 14, 17] fun K hK => ?_
    simp [encSer_eq, encIsss_eq, encIss_eq]
    try simp (disch := omega) only [wrap_i64]
    repeat refine ⟨by first | omega | assumption | (simp only [maxLen]; omega) | (intros; omega) | decide, ?_⟩
    refine hK _ ?_
    clear hK K
    refine AWp.cond rfl (fun h17 => ?_) (fun h17 => ?_)
    · try simp at h17
      have hb : expR s day = (zSer, 13) := by unfold expR; rw [if_neg (by omega), if_pos h17]
      -- region 5
      refine AWp.rseq E_ok [0, 1, 2, 4, 5, 6, 14, 17] fun K hK => ?_
      simp [encSer_eq, encIsss_eq, encIss_eq]
      try simp (disch := omega) only [wrap_i64]
      repeat refine ⟨by first | omega | assumption | (simp only [maxLen]; omega) | (intros; omega) | decide, ?_⟩
      refine hK _ ?_
      clear hK K
      refine AWp.ret ?_
      repeat first | refine thenN ?_ | refine thenX ?_ | refine thenR ?_ | refine blockN ?_ | refine blockR ?_ | refine blockX ?_ | refine blockM rfl ?_
      simp [RetOk, RV, RVs, hb, zSer, zPat, encSer_eq, encInts_eq, encIsss_eq, encIss_eq, zIss]
    · try simp at h17
      have hb : expR s day = (⟨s.rcd, s.pat, untilR s.pat day, s.iss ++ listR s.pat s.next (untilR s.pat day - s.next)⟩, 0) := by unfold expR; rw [if_neg (by omega), if_neg (by omega)]
      refine AWp.skip ?_
      repeat first | refine thenN ?_ | refine thenX ?_ | refine thenR ?_ | refine blockN ?_ | refine blockR ?_ | refine blockX ?_ | refine blockM rfl ?_
      -- region 6, every order
      refine AWp.rseqS E_ok mixed [0, 1, 2, 4, 5, 6, 14, 17] (n := 15) (l := #[false, false, false, false, false, false, false, false, false, false, false, false, false, false, false]) rfl (by kernel_rfl) fun K hK => ?_
      suffices hnext : K [(0, T.val (D.agg [D.int IntKind.i64 s.rcd, D.int IntKind.i64 s.pat.start, D.int IntKind.i64 s.pat.every, D.int IntKind.i64 s.pat.per, D.int IntKind.i64 s.pat.first, encInts s.pat.skip, encInts s.pat.dbl, D.int IntKind.i64 s.next, (D.agg [D.int IntKind.i64 zIss.vol, D.int IntKind.i64 zIss.num, D.int IntKind.i64 zIss.last, D.int IntKind.i64 zIss.day, D.int IntKind.i64 zIss.st, D.int IntKind.i64 zIss.item]).slice (List.map encIss s.iss)])), (1, T.val (D.int IntKind.i64 day)), (2, T.box [C.d (D.int IntKind.i64 s.rcd), C.d (D.int IntKind.i64 s.pat.start), C.d (D.int IntKind.i64 s.pat.every), C.d (D.int IntKind.i64 s.pat.per), C.d (D.int IntKind.i64 s.pat.first), C.d (encInts s.pat.skip), C.d (encInts s.pat.dbl), C.d (D.int IntKind.i64 s.next), C.own true (D.agg [D.int IntKind.i64 zIss.vol, D.int IntKind.i64 zIss.num, D.int IntKind.i64 zIss.last, D.int IntKind.i64 zIss.day, D.int IntKind.i64 zIss.st, D.int IntKind.i64 zIss.item]) (List.map encIss s.iss ++ List.map encIss (listR s.pat s.next (untilR s.pat day - s.next)))]), (4, T.box [C.d (D.int IntKind.i64 (0 : Int)), C.d (D.int IntKind.i64 (0 : Int)), C.d (D.int IntKind.i64 (0 : Int)), C.d (D.int IntKind.i64 (0 : Int)), C.d (D.int IntKind.i64 (0 : Int)), C.d ((D.int IntKind.i64 (0 : Int)).slice []), C.d ((D.int IntKind.i64 (0 : Int)).slice []), C.d (D.int IntKind.i64 (0 : Int)), C.d ((D.agg [D.int IntKind.i64 (0 : Int), D.int IntKind.i64 (0 : Int), D.int IntKind.i64 (0 : Int), D.int IntKind.i64 (0 : Int), D.int IntKind.i64 (0 : Int), D.int IntKind.i64 (0 : Int)]).slice [])]), (5, T.val (D.int IntKind.i64 (0 : Int))), (6, T.val (D.int IntKind.i64 (untilR s.pat day))), (14, T.val (D.bool (decide (untilR s.pat day ≤ s.next)))), (17, T.val (D.bool (decide ((128 : Int) < untilR s.pat day))))] by
        refine contS.cut 0 #[true, true, true, true, true, true, true, true, true, true, true, true, true, true, true] [(0, T.val (D.agg [D.int IntKind.i64 s.rcd, D.int IntKind.i64 s.pat.start, D.int IntKind.i64 s.pat.every, D.int IntKind.i64 s.pat.per, D.int IntKind.i64 s.pat.first, encInts s.pat.skip, encInts s.pat.dbl, D.int IntKind.i64 s.next, (D.agg [D.int IntKind.i64 zIss.vol, D.int IntKind.i64 zIss.num, D.int IntKind.i64 zIss.last, D.int IntKind.i64 zIss.day, D.int IntKind.i64 zIss.st, D.int IntKind.i64 zIss.item]).slice (List.map encIss s.iss)])), (1, T.val (D.int IntKind.i64 day)), (2, T.box [C.d (D.int IntKind.i64 s.rcd), C.d (D.int IntKind.i64 s.pat.start), C.d (D.int IntKind.i64 s.pat.every), C.d (D.int IntKind.i64 s.pat.per), C.d (D.int IntKind.i64 s.pat.first), C.d (encInts s.pat.skip), C.d (encInts s.pat.dbl), C.d (D.int IntKind.i64 s.next), C.own true (D.agg [D.int IntKind.i64 zIss.vol, D.int IntKind.i64 zIss.num, D.int IntKind.i64 zIss.last, D.int IntKind.i64 zIss.day, D.int IntKind.i64 zIss.st, D.int IntKind.i64 zIss.item]) (List.map encIss s.iss ++ List.map encIss (listR s.pat s.next (untilR s.pat day - s.next)))]), (4, T.box [C.d (D.int IntKind.i64 (0 : Int)), C.d (D.int IntKind.i64 (0 : Int)), C.d (D.int IntKind.i64 (0 : Int)), C.d (D.int IntKind.i64 (0 : Int)), C.d (D.int IntKind.i64 (0 : Int)), C.d ((D.int IntKind.i64 (0 : Int)).slice []), C.d ((D.int IntKind.i64 (0 : Int)).slice []), C.d (D.int IntKind.i64 (0 : Int)), C.d ((D.agg [D.int IntKind.i64 (0 : Int), D.int IntKind.i64 (0 : Int), D.int IntKind.i64 (0 : Int), D.int IntKind.i64 (0 : Int), D.int IntKind.i64 (0 : Int), D.int IntKind.i64 (0 : Int)]).slice [])]), (5, T.val (D.int IntKind.i64 (0 : Int))), (6, T.val (D.int IntKind.i64 (untilR s.pat day))), (14, T.val (D.bool (decide (untilR s.pat day ≤ s.next)))), (17, T.val (D.bool (decide ((128 : Int) < untilR s.pat day))))] ?_ fun h_1_2_4_6_9_11_12_14_ => ?_
        · skip
          refine coreS.nil (by kernel_rfl) ?_
          simpa [encSer_eq, encIsss_eq, encIss_eq] using hnext
        refine contS.cut 1 #[true, true, true, true, true, true, true, true, true, true, true, true, true, true, false] [(0, T.val (D.agg [D.int IntKind.i64 s.rcd, D.int IntKind.i64 s.pat.start, D.int IntKind.i64 s.pat.every, D.int IntKind.i64 s.pat.per, D.int IntKind.i64 s.pat.first, encInts s.pat.skip, encInts s.pat.dbl, D.int IntKind.i64 s.next, (D.agg [D.int IntKind.i64 zIss.vol, D.int IntKind.i64 zIss.num, D.int IntKind.i64 zIss.last, D.int IntKind.i64 zIss.day, D.int IntKind.i64 zIss.st, D.int IntKind.i64 zIss.item]).slice (List.map encIss s.iss)])), (1, T.val (D.int IntKind.i64 day)), (2, T.box [C.d (D.int IntKind.i64 s.rcd), C.d (D.int IntKind.i64 s.pat.start), C.d (D.int IntKind.i64 s.pat.every), C.d (D.int IntKind.i64 s.pat.per), C.d (D.int IntKind.i64 s.pat.first), C.d (encInts s.pat.skip), C.d (encInts s.pat.dbl), C.d (D.int IntKind.i64 s.next), C.d ((D.agg [D.int IntKind.i64 zIss.vol, D.int IntKind.i64 zIss.num, D.int IntKind.i64 zIss.last, D.int IntKind.i64 zIss.day, D.int IntKind.i64 zIss.st, D.int IntKind.i64 zIss.item]).slice (List.map encIss s.iss))]), (4, T.box [C.d (D.int IntKind.i64 (0 : Int)), C.d (D.int IntKind.i64 (0 : Int)), C.d (D.int IntKind.i64 (0 : Int)), C.d (D.int IntKind.i64 (0 : Int)), C.d (D.int IntKind.i64 (0 : Int)), C.d ((D.int IntKind.i64 (0 : Int)).slice []), C.d ((D.int IntKind.i64 (0 : Int)).slice []), C.d (D.int IntKind.i64 (0 : Int)), C.d ((D.agg [D.int IntKind.i64 (0 : Int), D.int IntKind.i64 (0 : Int), D.int IntKind.i64 (0 : Int), D.int IntKind.i64 (0 : Int), D.int IntKind.i64 (0 : Int), D.int IntKind.i64 (0 : Int)]).slice [])]), (5, T.val (D.int IntKind.i64 (0 : Int))), (6, T.val (D.int IntKind.i64 (untilR s.pat day))), (14, T.val (D.bool (decide (untilR s.pat day ≤ s.next)))), (17, T.val (D.bool (decide ((128 : Int) < untilR s.pat day)))), (31, T.own true (D.agg [D.int IntKind.i64 zIss.vol, D.int IntKind.i64 zIss.num, D.int IntKind.i64 zIss.last, D.int IntKind.i64 zIss.day, D.int IntKind.i64 zIss.st, D.int IntKind.i64 zIss.item]) (List.map encIss s.iss ++ List.map encIss (listR s.pat s.next (untilR s.pat day - s.next)))), (32, T.ptr 2 8)] ?_ fun h_1_2_4_6_9_11_12 => ?_
        · skip
          refine coreS.step E_ok [14] (by kernel_rfl) (by simp) ?_
          refine anyS.cons rfl ?_ ?_
          · skip
            simp [encSer_eq, encIsss_eq, encIss_eq]
            try simp (disch := omega) only [wrap_i64]
            repeat refine ⟨by first | omega | assumption | (simp only [maxLen]; omega) | (intros; omega) | decide, ?_⟩
            exact contS.mk (by simp [Weak, TW, T.plain, encSer_eq, encIsss_eq, encIss_eq]) h_1_2_4_6_9_11_12_14_ (by kernel_rfl)
          exact anyS.nil
        refine contS.cut 3 #[true, true, true, true, true, true, true, true, true, true, true, true, false, false, false] [(0, T.val (D.agg [D.int IntKind.i64 s.rcd, D.int IntKind.i64 s.pat.start, D.int IntKind.i64 s.pat.every, D.int IntKind.i64 s.pat.per, D.int IntKind.i64 s.pat.first, encInts s.pat.skip, encInts s.pat.dbl, D.int IntKind.i64 s.next, (D.agg [D.int IntKind.i64 zIss.vol, D.int IntKind.i64 zIss.num, D.int IntKind.i64 zIss.last, D.int IntKind.i64 zIss.day, D.int IntKind.i64 zIss.st, D.int IntKind.i64 zIss.item]).slice (List.map encIss s.iss)])), (1, T.val (D.int IntKind.i64 day)), (2, T.box [C.d (D.int IntKind.i64 s.rcd), C.d (D.int IntKind.i64 s.pat.start), C.d (D.int IntKind.i64 s.pat.every), C.d (D.int IntKind.i64 s.pat.per), C.d (D.int IntKind.i64 s.pat.first), C.d (encInts s.pat.skip), C.d (encInts s.pat.dbl), C.d (D.int IntKind.i64 s.next), C.d ((D.agg [D.int IntKind.i64 zIss.vol, D.int IntKind.i64 zIss.num, D.int IntKind.i64 zIss.last, D.int IntKind.i64 zIss.day, D.int IntKind.i64 zIss.st, D.int IntKind.i64 zIss.item]).slice (List.map encIss s.iss))]), (4, T.box [C.d (D.int IntKind.i64 (0 : Int)), C.d (D.int IntKind.i64 (0 : Int)), C.d (D.int IntKind.i64 (0 : Int)), C.d (D.int IntKind.i64 (0 : Int)), C.d (D.int IntKind.i64 (0 : Int)), C.d ((D.int IntKind.i64 (0 : Int)).slice []), C.d ((D.int IntKind.i64 (0 : Int)).slice []), C.d (D.int IntKind.i64 (0 : Int)), C.d ((D.agg [D.int IntKind.i64 (0 : Int), D.int IntKind.i64 (0 : Int), D.int IntKind.i64 (0 : Int), D.int IntKind.i64 (0 : Int), D.int IntKind.i64 (0 : Int), D.int IntKind.i64 (0 : Int)]).slice [])]), (5, T.val (D.int IntKind.i64 (0 : Int))), (6, T.val (D.int IntKind.i64 (untilR s.pat day))), (14, T.val (D.bool (decide (untilR s.pat day ≤ s.next)))), (17, T.val (D.bool (decide ((128 : Int) < untilR s.pat day)))), (21, T.own true (D.agg [D.int IntKind.i64 zIss.vol, D.int IntKind.i64 zIss.num, D.int IntKind.i64 zIss.last, D.int IntKind.i64 zIss.day, D.int IntKind.i64 zIss.st, D.int IntKind.i64 zIss.item]) (List.map encIss s.iss)), (30, T.val ((D.agg [D.int IntKind.i64 zIss.vol, D.int IntKind.i64 zIss.num, D.int IntKind.i64 zIss.last, D.int IntKind.i64 zIss.day, D.int IntKind.i64 zIss.st, D.int IntKind.i64 zIss.item]).slice (List.map encIss (listR s.pat s.next (untilR s.pat day - s.next)))))] ?_ fun h_1_2_4_6_9_11 => ?_
        · skip
          refine coreS.step E_ok [12] (by kernel_rfl) (by simp) ?_
          refine anyS.cons rfl ?_ ?_
          · skip
            simp [encSer_eq, encIsss_eq, encIss_eq]
            try simp (disch := omega) only [wrap_i64]
            repeat refine ⟨by first | omega | assumption | (simp only [maxLen]; omega) | (intros; omega) | decide, ?_⟩
            refine contS.now (f' := 2) (l' := #[true, true, true, true, true, true, true, true, true, true, true, true, true, false, false]) ?_ rfl (by kernel_rfl)
            refine coreS.dry E_ok (by kernel_rfl) 13 rfl rfl (by kernel_rfl) (by kernel_rfl) ?_
            simp [encSer_eq, encIsss_eq, encIss_eq]
            try simp (disch := omega) only [wrap_i64]
            repeat refine ⟨by first | omega | assumption | (simp only [maxLen]; omega) | (intros; omega) | decide, ?_⟩
            exact contS.mk (by simp [Weak, TW, T.plain, encSer_eq, encIsss_eq, encIss_eq]) h_1_2_4_6_9_11_12 (by kernel_rfl)
          exact anyS.nil
        refine contS.cut 4 #[true, true, true, true, true, true, true, true, true, true, true, false, false, false, false] [(0, T.val (D.agg [D.int IntKind.i64 s.rcd, D.int IntKind.i64 s.pat.start, D.int IntKind.i64 s.pat.every, D.int IntKind.i64 s.pat.per, D.int IntKind.i64 s.pat.first, encInts s.pat.skip, encInts s.pat.dbl, D.int IntKind.i64 s.next, (D.agg [D.int IntKind.i64 zIss.vol, D.int IntKind.i64 zIss.num, D.int IntKind.i64 zIss.last, D.int IntKind.i64 zIss.day, D.int IntKind.i64 zIss.st, D.int IntKind.i64 zIss.item]).slice (List.map encIss s.iss)])), (1, T.val (D.int IntKind.i64 day)), (2, T.box [C.d (D.int IntKind.i64 s.rcd), C.d (D.int IntKind.i64 s.pat.start), C.d (D.int IntKind.i64 s.pat.every), C.d (D.int IntKind.i64 s.pat.per), C.d (D.int IntKind.i64 s.pat.first), C.d (encInts s.pat.skip), C.d (encInts s.pat.dbl), C.d (D.int IntKind.i64 s.next), C.d ((D.agg [D.int IntKind.i64 zIss.vol, D.int IntKind.i64 zIss.num, D.int IntKind.i64 zIss.last, D.int IntKind.i64 zIss.day, D.int IntKind.i64 zIss.st, D.int IntKind.i64 zIss.item]).slice (List.map encIss s.iss))]), (4, T.box [C.d (D.int IntKind.i64 (0 : Int)), C.d (D.int IntKind.i64 (0 : Int)), C.d (D.int IntKind.i64 (0 : Int)), C.d (D.int IntKind.i64 (0 : Int)), C.d (D.int IntKind.i64 (0 : Int)), C.d ((D.int IntKind.i64 (0 : Int)).slice []), C.d ((D.int IntKind.i64 (0 : Int)).slice []), C.d (D.int IntKind.i64 (0 : Int)), C.d ((D.agg [D.int IntKind.i64 (0 : Int), D.int IntKind.i64 (0 : Int), D.int IntKind.i64 (0 : Int), D.int IntKind.i64 (0 : Int), D.int IntKind.i64 (0 : Int), D.int IntKind.i64 (0 : Int)]).slice [])]), (5, T.val (D.int IntKind.i64 (0 : Int))), (6, T.val (D.int IntKind.i64 (untilR s.pat day))), (14, T.val (D.bool (decide (untilR s.pat day ≤ s.next)))), (17, T.val (D.bool (decide ((128 : Int) < untilR s.pat day)))), (21, T.own true (D.agg [D.int IntKind.i64 zIss.vol, D.int IntKind.i64 zIss.num, D.int IntKind.i64 zIss.last, D.int IntKind.i64 zIss.day, D.int IntKind.i64 zIss.st, D.int IntKind.i64 zIss.item]) (List.map encIss s.iss)), (23, T.val (D.agg [D.int IntKind.i64 s.pat.start, D.int IntKind.i64 s.pat.every, D.int IntKind.i64 s.pat.per, D.int IntKind.i64 s.pat.first, encInts s.pat.skip, encInts s.pat.dbl])), (25, T.val (D.int IntKind.i64 s.next)), (29, T.val (D.int IntKind.i64 (untilR s.pat day - s.next)))] ?_ fun h_1_2_4_6_9 => ?_
        · skip
          refine coreS.step E_ok [11] (by kernel_rfl) (by simp) ?_
          refine anyS.cons rfl ?_ ?_
          · skip
            simp [encSer_eq, encIsss_eq, encIss_eq]
            try simp (disch := omega) only [wrap_i64]
            repeat refine ⟨by first | omega | assumption | (simp only [maxLen]; omega) | (intros; omega) | decide, ?_⟩
            refine meet.of (pattern_List s.pat s.next _ hp) ?_
            simp [encSer_eq, encIsss_eq, encIss_eq]
            try simp (disch := omega) only [wrap_i64]
            repeat refine ⟨by first | omega | assumption | (simp only [maxLen]; omega) | (intros; omega) | decide, ?_⟩
            exact contS.mk (by simp [Weak, TW, T.plain, encSer_eq, encIsss_eq, encIss_eq]) h_1_2_4_6_9_11 (by kernel_rfl)
          exact anyS.nil
        refine contS.cut 5 #[true, true, true, true, true, true, false, true, true, true, true, false, false, false, false] [(0, T.val (D.agg [D.int IntKind.i64 s.rcd, D.int IntKind.i64 s.pat.start, D.int IntKind.i64 s.pat.every, D.int IntKind.i64 s.pat.per, D.int IntKind.i64 s.pat.first, encInts s.pat.skip, encInts s.pat.dbl, D.int IntKind.i64 s.next, (D.agg [D.int IntKind.i64 zIss.vol, D.int IntKind.i64 zIss.num, D.int IntKind.i64 zIss.last, D.int IntKind.i64 zIss.day, D.int IntKind.i64 zIss.st, D.int IntKind.i64 zIss.item]).slice (List.map encIss s.iss)])), (1, T.val (D.int IntKind.i64 day)), (2, T.box [C.d (D.int IntKind.i64 s.rcd), C.d (D.int IntKind.i64 s.pat.start), C.d (D.int IntKind.i64 s.pat.every), C.d (D.int IntKind.i64 s.pat.per), C.d (D.int IntKind.i64 s.pat.first), C.d (encInts s.pat.skip), C.d (encInts s.pat.dbl), C.d (D.int IntKind.i64 s.next), C.d ((D.agg [D.int IntKind.i64 zIss.vol, D.int IntKind.i64 zIss.num, D.int IntKind.i64 zIss.last, D.int IntKind.i64 zIss.day, D.int IntKind.i64 zIss.st, D.int IntKind.i64 zIss.item]).slice (List.map encIss s.iss))]), (4, T.box [C.d (D.int IntKind.i64 (0 : Int)), C.d (D.int IntKind.i64 (0 : Int)), C.d (D.int IntKind.i64 (0 : Int)), C.d (D.int IntKind.i64 (0 : Int)), C.d (D.int IntKind.i64 (0 : Int)), C.d ((D.int IntKind.i64 (0 : Int)).slice []), C.d ((D.int IntKind.i64 (0 : Int)).slice []), C.d (D.int IntKind.i64 (0 : Int)), C.d ((D.agg [D.int IntKind.i64 (0 : Int), D.int IntKind.i64 (0 : Int), D.int IntKind.i64 (0 : Int), D.int IntKind.i64 (0 : Int), D.int IntKind.i64 (0 : Int), D.int IntKind.i64 (0 : Int)]).slice [])]), (5, T.val (D.int IntKind.i64 (0 : Int))), (6, T.val (D.int IntKind.i64 (untilR s.pat day))), (14, T.val (D.bool (decide (untilR s.pat day ≤ s.next)))), (17, T.val (D.bool (decide ((128 : Int) < untilR s.pat day)))), (21, T.own true (D.agg [D.int IntKind.i64 zIss.vol, D.int IntKind.i64 zIss.num, D.int IntKind.i64 zIss.last, D.int IntKind.i64 zIss.day, D.int IntKind.i64 zIss.st, D.int IntKind.i64 zIss.item]) (List.map encIss s.iss)), (23, T.val (D.agg [D.int IntKind.i64 s.pat.start, D.int IntKind.i64 s.pat.every, D.int IntKind.i64 s.pat.per, D.int IntKind.i64 s.pat.first, encInts s.pat.skip, encInts s.pat.dbl])), (24, T.ptr 2 7), (29, T.val (D.int IntKind.i64 (untilR s.pat day - s.next)))] ?_ fun h_1_2_4_9 => ?_
        · skip
          refine coreS.step E_ok [6] (by kernel_rfl) (by simp) ?_
          refine anyS.cons rfl ?_ ?_
          · skip
            simp [encSer_eq, encIsss_eq, encIss_eq]
            try simp (disch := omega) only [wrap_i64]
            repeat refine ⟨by first | omega | assumption | (simp only [maxLen]; omega) | (intros; omega) | decide, ?_⟩
            exact contS.mk (by simp [Weak, TW, T.plain, encSer_eq, encIsss_eq, encIss_eq]) h_1_2_4_6_9 (by kernel_rfl)
          exact anyS.nil
        refine contS.cut 5 #[true, true, true, true, false, true, true, true, true, true, true, false, false, false, false] [(0, T.val (D.agg [D.int IntKind.i64 s.rcd, D.int IntKind.i64 s.pat.start, D.int IntKind.i64 s.pat.every, D.int IntKind.i64 s.pat.per, D.int IntKind.i64 s.pat.first, encInts s.pat.skip, encInts s.pat.dbl, D.int IntKind.i64 s.next, (D.agg [D.int IntKind.i64 zIss.vol, D.int IntKind.i64 zIss.num, D.int IntKind.i64 zIss.last, D.int IntKind.i64 zIss.day, D.int IntKind.i64 zIss.st, D.int IntKind.i64 zIss.item]).slice (List.map encIss s.iss)])), (1, T.val (D.int IntKind.i64 day)), (2, T.box [C.d (D.int IntKind.i64 s.rcd), C.d (D.int IntKind.i64 s.pat.start), C.d (D.int IntKind.i64 s.pat.every), C.d (D.int IntKind.i64 s.pat.per), C.d (D.int IntKind.i64 s.pat.first), C.d (encInts s.pat.skip), C.d (encInts s.pat.dbl), C.d (D.int IntKind.i64 s.next), C.d ((D.agg [D.int IntKind.i64 zIss.vol, D.int IntKind.i64 zIss.num, D.int IntKind.i64 zIss.last, D.int IntKind.i64 zIss.day, D.int IntKind.i64 zIss.st, D.int IntKind.i64 zIss.item]).slice (List.map encIss s.iss))]), (4, T.box [C.d (D.int IntKind.i64 (0 : Int)), C.d (D.int IntKind.i64 (0 : Int)), C.d (D.int IntKind.i64 (0 : Int)), C.d (D.int IntKind.i64 (0 : Int)), C.d (D.int IntKind.i64 (0 : Int)), C.d ((D.int IntKind.i64 (0 : Int)).slice []), C.d ((D.int IntKind.i64 (0 : Int)).slice []), C.d (D.int IntKind.i64 (0 : Int)), C.d ((D.agg [D.int IntKind.i64 (0 : Int), D.int IntKind.i64 (0 : Int), D.int IntKind.i64 (0 : Int), D.int IntKind.i64 (0 : Int), D.int IntKind.i64 (0 : Int), D.int IntKind.i64 (0 : Int)]).slice [])]), (5, T.val (D.int IntKind.i64 (0 : Int))), (6, T.val (D.int IntKind.i64 (untilR s.pat day))), (14, T.val (D.bool (decide (untilR s.pat day ≤ s.next)))), (17, T.val (D.bool (decide ((128 : Int) < untilR s.pat day)))), (21, T.own true (D.agg [D.int IntKind.i64 zIss.vol, D.int IntKind.i64 zIss.num, D.int IntKind.i64 zIss.last, D.int IntKind.i64 zIss.day, D.int IntKind.i64 zIss.st, D.int IntKind.i64 zIss.item]) (List.map encIss s.iss)), (22, T.ptr 2 1), (25, T.val (D.int IntKind.i64 s.next)), (29, T.val (D.int IntKind.i64 (untilR s.pat day - s.next)))] ?_ fun h_1_2_6_9 => ?_
        · skip
          refine coreS.step E_ok [4] (by kernel_rfl) (by simp) ?_
          refine anyS.cons rfl ?_ ?_
          · skip
            simp [encSer_eq, encIsss_eq, encIss_eq]
            try simp (disch := omega) only [wrap_i64]
            repeat refine ⟨by first | omega | assumption | (simp only [maxLen]; omega) | (intros; omega) | decide, ?_⟩
            exact contS.mk (by simp [Weak, TW, T.plain, encSer_eq, encIsss_eq, encIss_eq]) h_1_2_4_6_9 (by kernel_rfl)
          exact anyS.nil
        refine contS.cut 5 #[true, true, false, true, true, true, true, true, true, true, true, false, false, false, false] [(0, T.val (D.agg [D.int IntKind.i64 s.rcd, D.int IntKind.i64 s.pat.start, D.int IntKind.i64 s.pat.every, D.int IntKind.i64 s.pat.per, D.int IntKind.i64 s.pat.first, encInts s.pat.skip, encInts s.pat.dbl, D.int IntKind.i64 s.next, (D.agg [D.int IntKind.i64 zIss.vol, D.int IntKind.i64 zIss.num, D.int IntKind.i64 zIss.last, D.int IntKind.i64 zIss.day, D.int IntKind.i64 zIss.st, D.int IntKind.i64 zIss.item]).slice (List.map encIss s.iss)])), (1, T.val (D.int IntKind.i64 day)), (2, T.box [C.d (D.int IntKind.i64 s.rcd), C.d (D.int IntKind.i64 s.pat.start), C.d (D.int IntKind.i64 s.pat.every), C.d (D.int IntKind.i64 s.pat.per), C.d (D.int IntKind.i64 s.pat.first), C.d (encInts s.pat.skip), C.d (encInts s.pat.dbl), C.d (D.int IntKind.i64 s.next), C.d ((D.agg [D.int IntKind.i64 zIss.vol, D.int IntKind.i64 zIss.num, D.int IntKind.i64 zIss.last, D.int IntKind.i64 zIss.day, D.int IntKind.i64 zIss.st, D.int IntKind.i64 zIss.item]).slice (List.map encIss s.iss))]), (4, T.box [C.d (D.int IntKind.i64 (0 : Int)), C.d (D.int IntKind.i64 (0 : Int)), C.d (D.int IntKind.i64 (0 : Int)), C.d (D.int IntKind.i64 (0 : Int)), C.d (D.int IntKind.i64 (0 : Int)), C.d ((D.int IntKind.i64 (0 : Int)).slice []), C.d ((D.int IntKind.i64 (0 : Int)).slice []), C.d (D.int IntKind.i64 (0 : Int)), C.d ((D.agg [D.int IntKind.i64 (0 : Int), D.int IntKind.i64 (0 : Int), D.int IntKind.i64 (0 : Int), D.int IntKind.i64 (0 : Int), D.int IntKind.i64 (0 : Int), D.int IntKind.i64 (0 : Int)]).slice [])]), (5, T.val (D.int IntKind.i64 (0 : Int))), (6, T.val (D.int IntKind.i64 (untilR s.pat day))), (14, T.val (D.bool (decide (untilR s.pat day ≤ s.next)))), (17, T.val (D.bool (decide ((128 : Int) < untilR s.pat day)))), (20, T.val ((D.agg [D.int IntKind.i64 zIss.vol, D.int IntKind.i64 zIss.num, D.int IntKind.i64 zIss.last, D.int IntKind.i64 zIss.day, D.int IntKind.i64 zIss.st, D.int IntKind.i64 zIss.item]).slice (List.map encIss s.iss))), (23, T.val (D.agg [D.int IntKind.i64 s.pat.start, D.int IntKind.i64 s.pat.every, D.int IntKind.i64 s.pat.per, D.int IntKind.i64 s.pat.first, encInts s.pat.skip, encInts s.pat.dbl])), (25, T.val (D.int IntKind.i64 s.next)), (29, T.val (D.int IntKind.i64 (untilR s.pat day - s.next)))] ?_ fun h_1_4_6_9 => ?_
        · skip
          refine coreS.step E_ok [2] (by kernel_rfl) (by simp) ?_
          refine anyS.cons rfl ?_ ?_
          · skip
            simp [encSer_eq, encIsss_eq, encIss_eq]
            try simp (disch := omega) only [wrap_i64]
            repeat refine ⟨by first | omega | assumption | (simp only [maxLen]; omega) | (intros; omega) | decide, ?_⟩
            refine meet.of (slices_Clone_api_Issue_api_Issue s.iss (by omega)) ?_
            simp [encSer_eq, encIsss_eq, encIss_eq]
            try simp (disch := omega) only [wrap_i64]
            repeat refine ⟨by first | omega | assumption | (simp only [maxLen]; omega) | (intros; omega) | decide, ?_⟩
            exact contS.mk (by simp [Weak, TW, T.plain, encSer_eq, encIsss_eq, encIss_eq]) h_1_2_4_6_9 (by kernel_rfl)
          exact anyS.nil
        refine contS.cut 6 #[true, true, true, true, false, true, false, true, true, true, true, false, false, false, false] [(0, T.val (D.agg [D.int IntKind.i64 s.rcd, D.int IntKind.i64 s.pat.start, D.int IntKind.i64 s.pat.every, D.int IntKind.i64 s.pat.per, D.int IntKind.i64 s.pat.first, encInts s.pat.skip, encInts s.pat.dbl, D.int IntKind.i64 s.next, (D.agg [D.int IntKind.i64 zIss.vol, D.int IntKind.i64 zIss.num, D.int IntKind.i64 zIss.last, D.int IntKind.i64 zIss.day, D.int IntKind.i64 zIss.st, D.int IntKind.i64 zIss.item]).slice (List.map encIss s.iss)])), (1, T.val (D.int IntKind.i64 day)), (2, T.box [C.d (D.int IntKind.i64 s.rcd), C.d (D.int IntKind.i64 s.pat.start), C.d (D.int IntKind.i64 s.pat.every), C.d (D.int IntKind.i64 s.pat.per), C.d (D.int IntKind.i64 s.pat.first), C.d (encInts s.pat.skip), C.d (encInts s.pat.dbl), C.d (D.int IntKind.i64 s.next), C.d ((D.agg [D.int IntKind.i64 zIss.vol, D.int IntKind.i64 zIss.num, D.int IntKind.i64 zIss.last, D.int IntKind.i64 zIss.day, D.int IntKind.i64 zIss.st, D.int IntKind.i64 zIss.item]).slice (List.map encIss s.iss))]), (4, T.box [C.d (D.int IntKind.i64 (0 : Int)), C.d (D.int IntKind.i64 (0 : Int)), C.d (D.int IntKind.i64 (0 : Int)), C.d (D.int IntKind.i64 (0 : Int)), C.d (D.int IntKind.i64 (0 : Int)), C.d ((D.int IntKind.i64 (0 : Int)).slice []), C.d ((D.int IntKind.i64 (0 : Int)).slice []), C.d (D.int IntKind.i64 (0 : Int)), C.d ((D.agg [D.int IntKind.i64 (0 : Int), D.int IntKind.i64 (0 : Int), D.int IntKind.i64 (0 : Int), D.int IntKind.i64 (0 : Int), D.int IntKind.i64 (0 : Int), D.int IntKind.i64 (0 : Int)]).slice [])]), (5, T.val (D.int IntKind.i64 (0 : Int))), (6, T.val (D.int IntKind.i64 (untilR s.pat day))), (14, T.val (D.bool (decide (untilR s.pat day ≤ s.next)))), (17, T.val (D.bool (decide ((128 : Int) < untilR s.pat day)))), (21, T.own true (D.agg [D.int IntKind.i64 zIss.vol, D.int IntKind.i64 zIss.num, D.int IntKind.i64 zIss.last, D.int IntKind.i64 zIss.day, D.int IntKind.i64 zIss.st, D.int IntKind.i64 zIss.item]) (List.map encIss s.iss)), (22, T.ptr 2 1), (24, T.ptr 2 7), (29, T.val (D.int IntKind.i64 (untilR s.pat day - s.next)))] ?_ fun h_1_2_9 => ?_
        · skip
          refine coreS.step E_ok [4, 6] (by kernel_rfl) (by simp) ?_
          refine anyS.cons rfl ?_ ?_
          · skip
            simp [encSer_eq, encIsss_eq, encIss_eq]
            try simp (disch := omega) only [wrap_i64]
            repeat refine ⟨by first | omega | assumption | (simp only [maxLen]; omega) | (intros; omega) | decide, ?_⟩
            exact contS.mk (by simp [Weak, TW, T.plain, encSer_eq, encIsss_eq, encIss_eq]) h_1_2_4_9 (by kernel_rfl)
          refine anyS.cons rfl ?_ ?_
          · skip
            simp [encSer_eq, encIsss_eq, encIss_eq]
            try simp (disch := omega) only [wrap_i64]
            repeat refine ⟨by first | omega | assumption | (simp only [maxLen]; omega) | (intros; omega) | decide, ?_⟩
            exact contS.mk (by simp [Weak, TW, T.plain, encSer_eq, encIsss_eq, encIss_eq]) h_1_2_6_9 (by kernel_rfl)
          exact anyS.nil
        refine contS.cut 6 #[true, true, false, true, true, true, false, true, true, true, true, false, false, false, false] [(0, T.val (D.agg [D.int IntKind.i64 s.rcd, D.int IntKind.i64 s.pat.start, D.int IntKind.i64 s.pat.every, D.int IntKind.i64 s.pat.per, D.int IntKind.i64 s.pat.first, encInts s.pat.skip, encInts s.pat.dbl, D.int IntKind.i64 s.next, (D.agg [D.int IntKind.i64 zIss.vol, D.int IntKind.i64 zIss.num, D.int IntKind.i64 zIss.last, D.int IntKind.i64 zIss.day, D.int IntKind.i64 zIss.st, D.int IntKind.i64 zIss.item]).slice (List.map encIss s.iss)])), (1, T.val (D.int IntKind.i64 day)), (2, T.box [C.d (D.int IntKind.i64 s.rcd), C.d (D.int IntKind.i64 s.pat.start), C.d (D.int IntKind.i64 s.pat.every), C.d (D.int IntKind.i64 s.pat.per), C.d (D.int IntKind.i64 s.pat.first), C.d (encInts s.pat.skip), C.d (encInts s.pat.dbl), C.d (D.int IntKind.i64 s.next), C.d ((D.agg [D.int IntKind.i64 zIss.vol, D.int IntKind.i64 zIss.num, D.int IntKind.i64 zIss.last, D.int IntKind.i64 zIss.day, D.int IntKind.i64 zIss.st, D.int IntKind.i64 zIss.item]).slice (List.map encIss s.iss))]), (4, T.box [C.d (D.int IntKind.i64 (0 : Int)), C.d (D.int IntKind.i64 (0 : Int)), C.d (D.int IntKind.i64 (0 : Int)), C.d (D.int IntKind.i64 (0 : Int)), C.d (D.int IntKind.i64 (0 : Int)), C.d ((D.int IntKind.i64 (0 : Int)).slice []), C.d ((D.int IntKind.i64 (0 : Int)).slice []), C.d (D.int IntKind.i64 (0 : Int)), C.d ((D.agg [D.int IntKind.i64 (0 : Int), D.int IntKind.i64 (0 : Int), D.int IntKind.i64 (0 : Int), D.int IntKind.i64 (0 : Int), D.int IntKind.i64 (0 : Int), D.int IntKind.i64 (0 : Int)]).slice [])]), (5, T.val (D.int IntKind.i64 (0 : Int))), (6, T.val (D.int IntKind.i64 (untilR s.pat day))), (14, T.val (D.bool (decide (untilR s.pat day ≤ s.next)))), (17, T.val (D.bool (decide ((128 : Int) < untilR s.pat day)))), (20, T.val ((D.agg [D.int IntKind.i64 zIss.vol, D.int IntKind.i64 zIss.num, D.int IntKind.i64 zIss.last, D.int IntKind.i64 zIss.day, D.int IntKind.i64 zIss.st, D.int IntKind.i64 zIss.item]).slice (List.map encIss s.iss))), (23, T.val (D.agg [D.int IntKind.i64 s.pat.start, D.int IntKind.i64 s.pat.every, D.int IntKind.i64 s.pat.per, D.int IntKind.i64 s.pat.first, encInts s.pat.skip, encInts s.pat.dbl])), (24, T.ptr 2 7), (29, T.val (D.int IntKind.i64 (untilR s.pat day - s.next)))] ?_ fun h_1_4_9 => ?_
        · skip
          refine coreS.step E_ok [2, 6] (by kernel_rfl) (by simp) ?_
          refine anyS.cons rfl ?_ ?_
          · skip
            simp [encSer_eq, encIsss_eq, encIss_eq]
            try simp (disch := omega) only [wrap_i64]
            repeat refine ⟨by first | omega | assumption | (simp only [maxLen]; omega) | (intros; omega) | decide, ?_⟩
            refine meet.of (slices_Clone_api_Issue_api_Issue s.iss (by omega)) ?_
            simp [encSer_eq, encIsss_eq, encIss_eq]
            try simp (disch := omega) only [wrap_i64]
            repeat refine ⟨by first | omega | assumption | (simp only [maxLen]; omega) | (intros; omega) | decide, ?_⟩
            exact contS.mk (by simp [Weak, TW, T.plain, encSer_eq, encIsss_eq, encIss_eq]) h_1_2_4_9 (by kernel_rfl)
          refine anyS.cons rfl ?_ ?_
          · skip
            simp [encSer_eq, encIsss_eq, encIss_eq]
            try simp (disch := omega) only [wrap_i64]
            repeat refine ⟨by first | omega | assumption | (simp only [maxLen]; omega) | (intros; omega) | decide, ?_⟩
            exact contS.mk (by simp [Weak, TW, T.plain, encSer_eq, encIsss_eq, encIss_eq]) h_1_4_6_9 (by kernel_rfl)
          exact anyS.nil
        refine contS.cut 6 #[true, true, false, true, false, true, true, true, true, true, true, false, false, false, false] [(0, T.val (D.agg [D.int IntKind.i64 s.rcd, D.int IntKind.i64 s.pat.start, D.int IntKind.i64 s.pat.every, D.int IntKind.i64 s.pat.per, D.int IntKind.i64 s.pat.first, encInts s.pat.skip, encInts s.pat.dbl, D.int IntKind.i64 s.next, (D.agg [D.int IntKind.i64 zIss.vol, D.int IntKind.i64 zIss.num, D.int IntKind.i64 zIss.last, D.int IntKind.i64 zIss.day, D.int IntKind.i64 zIss.st, D.int IntKind.i64 zIss.item]).slice (List.map encIss s.iss)])), (1, T.val (D.int IntKind.i64 day)), (2, T.box [C.d (D.int IntKind.i64 s.rcd), C.d (D.int IntKind.i64 s.pat.start), C.d (D.int IntKind.i64 s.pat.every), C.d (D.int IntKind.i64 s.pat.per), C.d (D.int IntKind.i64 s.pat.first), C.d (encInts s.pat.skip), C.d (encInts s.pat.dbl), C.d (D.int IntKind.i64 s.next), C.d ((D.agg [D.int IntKind.i64 zIss.vol, D.int IntKind.i64 zIss.num, D.int IntKind.i64 zIss.last, D.int IntKind.i64 zIss.day, D.int IntKind.i64 zIss.st, D.int IntKind.i64 zIss.item]).slice (List.map encIss s.iss))]), (4, T.box [C.d (D.int IntKind.i64 (0 : Int)), C.d (D.int IntKind.i64 (0 : Int)), C.d (D.int IntKind.i64 (0 : Int)), C.d (D.int IntKind.i64 (0 : Int)), C.d (D.int IntKind.i64 (0 : Int)), C.d ((D.int IntKind.i64 (0 : Int)).slice []), C.d ((D.int IntKind.i64 (0 : Int)).slice []), C.d (D.int IntKind.i64 (0 : Int)), C.d ((D.agg [D.int IntKind.i64 (0 : Int), D.int IntKind.i64 (0 : Int), D.int IntKind.i64 (0 : Int), D.int IntKind.i64 (0 : Int), D.int IntKind.i64 (0 : Int), D.int IntKind.i64 (0 : Int)]).slice [])]), (5, T.val (D.int IntKind.i64 (0 : Int))), (6, T.val (D.int IntKind.i64 (untilR s.pat day))), (14, T.val (D.bool (decide (untilR s.pat day ≤ s.next)))), (17, T.val (D.bool (decide ((128 : Int) < untilR s.pat day)))), (20, T.val ((D.agg [D.int IntKind.i64 zIss.vol, D.int IntKind.i64 zIss.num, D.int IntKind.i64 zIss.last, D.int IntKind.i64 zIss.day, D.int IntKind.i64 zIss.st, D.int IntKind.i64 zIss.item]).slice (List.map encIss s.iss))), (22, T.ptr 2 1), (25, T.val (D.int IntKind.i64 s.next)), (29, T.val (D.int IntKind.i64 (untilR s.pat day - s.next)))] ?_ fun h_1_6_9 => ?_
        · skip
          refine coreS.step E_ok [2, 4] (by kernel_rfl) (by simp) ?_
          refine anyS.cons rfl ?_ ?_
          · skip
            simp [encSer_eq, encIsss_eq, encIss_eq]
            try simp (disch := omega) only [wrap_i64]
            repeat refine ⟨by first | omega | assumption | (simp only [maxLen]; omega) | (intros; omega) | decide, ?_⟩
            refine meet.of (slices_Clone_api_Issue_api_Issue s.iss (by omega)) ?_
            simp [encSer_eq, encIsss_eq, encIss_eq]
            try simp (disch := omega) only [wrap_i64]
            repeat refine ⟨by first | omega | assumption | (simp only [maxLen]; omega) | (intros; omega) | decide, ?_⟩
            exact contS.mk (by simp [Weak, TW, T.plain, encSer_eq, encIsss_eq, encIss_eq]) h_1_2_6_9 (by kernel_rfl)
          refine anyS.cons rfl ?_ ?_
          · skip
            simp [encSer_eq, encIsss_eq, encIss_eq]
            try simp (disch := omega) only [wrap_i64]
            repeat refine ⟨by first | omega | assumption | (simp only [maxLen]; omega) | (intros; omega) | decide, ?_⟩
            exact contS.mk (by simp [Weak, TW, T.plain, encSer_eq, encIsss_eq, encIss_eq]) h_1_4_6_9 (by kernel_rfl)
          exact anyS.nil
        refine contS.cut 6 #[true, false, false, true, true, true, true, true, true, true, true, false, false, false, false] [(0, T.val (D.agg [D.int IntKind.i64 s.rcd, D.int IntKind.i64 s.pat.start, D.int IntKind.i64 s.pat.every, D.int IntKind.i64 s.pat.per, D.int IntKind.i64 s.pat.first, encInts s.pat.skip, encInts s.pat.dbl, D.int IntKind.i64 s.next, (D.agg [D.int IntKind.i64 zIss.vol, D.int IntKind.i64 zIss.num, D.int IntKind.i64 zIss.last, D.int IntKind.i64 zIss.day, D.int IntKind.i64 zIss.st, D.int IntKind.i64 zIss.item]).slice (List.map encIss s.iss)])), (1, T.val (D.int IntKind.i64 day)), (2, T.box [C.d (D.int IntKind.i64 s.rcd), C.d (D.int IntKind.i64 s.pat.start), C.d (D.int IntKind.i64 s.pat.every), C.d (D.int IntKind.i64 s.pat.per), C.d (D.int IntKind.i64 s.pat.first), C.d (encInts s.pat.skip), C.d (encInts s.pat.dbl), C.d (D.int IntKind.i64 s.next), C.d ((D.agg [D.int IntKind.i64 zIss.vol, D.int IntKind.i64 zIss.num, D.int IntKind.i64 zIss.last, D.int IntKind.i64 zIss.day, D.int IntKind.i64 zIss.st, D.int IntKind.i64 zIss.item]).slice (List.map encIss s.iss))]), (4, T.box [C.d (D.int IntKind.i64 (0 : Int)), C.d (D.int IntKind.i64 (0 : Int)), C.d (D.int IntKind.i64 (0 : Int)), C.d (D.int IntKind.i64 (0 : Int)), C.d (D.int IntKind.i64 (0 : Int)), C.d ((D.int IntKind.i64 (0 : Int)).slice []), C.d ((D.int IntKind.i64 (0 : Int)).slice []), C.d (D.int IntKind.i64 (0 : Int)), C.d ((D.agg [D.int IntKind.i64 (0 : Int), D.int IntKind.i64 (0 : Int), D.int IntKind.i64 (0 : Int), D.int IntKind.i64 (0 : Int), D.int IntKind.i64 (0 : Int), D.int IntKind.i64 (0 : Int)]).slice [])]), (5, T.val (D.int IntKind.i64 (0 : Int))), (6, T.val (D.int IntKind.i64 (untilR s.pat day))), (14, T.val (D.bool (decide (untilR s.pat day ≤ s.next)))), (17, T.val (D.bool (decide ((128 : Int) < untilR s.pat day)))), (19, T.ptr 2 8), (23, T.val (D.agg [D.int IntKind.i64 s.pat.start, D.int IntKind.i64 s.pat.every, D.int IntKind.i64 s.pat.per, D.int IntKind.i64 s.pat.first, encInts s.pat.skip, encInts s.pat.dbl])), (25, T.val (D.int IntKind.i64 s.next)), (29, T.val (D.int IntKind.i64 (untilR s.pat day - s.next)))] ?_ fun h_4_6_9 => ?_
        · skip
          refine coreS.step E_ok [1] (by kernel_rfl) (by simp) ?_
          refine anyS.cons rfl ?_ ?_
          · skip
            simp [encSer_eq, encIsss_eq, encIss_eq]
            try simp (disch := omega) only [wrap_i64]
            repeat refine ⟨by first | omega | assumption | (simp only [maxLen]; omega) | (intros; omega) | decide, ?_⟩
            exact contS.mk (by simp [Weak, TW, T.plain, encSer_eq, encIsss_eq, encIss_eq]) h_1_4_6_9 (by kernel_rfl)
          exact anyS.nil
        refine contS.cut 6 #[true, true, true, true, true, true, true, true, true, false, false, false, false, false, false] [(0, T.val (D.agg [D.int IntKind.i64 s.rcd, D.int IntKind.i64 s.pat.start, D.int IntKind.i64 s.pat.every, D.int IntKind.i64 s.pat.per, D.int IntKind.i64 s.pat.first, encInts s.pat.skip, encInts s.pat.dbl, D.int IntKind.i64 s.next, (D.agg [D.int IntKind.i64 zIss.vol, D.int IntKind.i64 zIss.num, D.int IntKind.i64 zIss.last, D.int IntKind.i64 zIss.day, D.int IntKind.i64 zIss.st, D.int IntKind.i64 zIss.item]).slice (List.map encIss s.iss)])), (1, T.val (D.int IntKind.i64 day)), (2, T.box [C.d (D.int IntKind.i64 s.rcd), C.d (D.int IntKind.i64 s.pat.start), C.d (D.int IntKind.i64 s.pat.every), C.d (D.int IntKind.i64 s.pat.per), C.d (D.int IntKind.i64 s.pat.first), C.d (encInts s.pat.skip), C.d (encInts s.pat.dbl), C.d (D.int IntKind.i64 s.next), C.d ((D.agg [D.int IntKind.i64 zIss.vol, D.int IntKind.i64 zIss.num, D.int IntKind.i64 zIss.last, D.int IntKind.i64 zIss.day, D.int IntKind.i64 zIss.st, D.int IntKind.i64 zIss.item]).slice (List.map encIss s.iss))]), (4, T.box [C.d (D.int IntKind.i64 (0 : Int)), C.d (D.int IntKind.i64 (0 : Int)), C.d (D.int IntKind.i64 (0 : Int)), C.d (D.int IntKind.i64 (0 : Int)), C.d (D.int IntKind.i64 (0 : Int)), C.d ((D.int IntKind.i64 (0 : Int)).slice []), C.d ((D.int IntKind.i64 (0 : Int)).slice []), C.d (D.int IntKind.i64 (0 : Int)), C.d ((D.agg [D.int IntKind.i64 (0 : Int), D.int IntKind.i64 (0 : Int), D.int IntKind.i64 (0 : Int), D.int IntKind.i64 (0 : Int), D.int IntKind.i64 (0 : Int), D.int IntKind.i64 (0 : Int)]).slice [])]), (5, T.val (D.int IntKind.i64 (0 : Int))), (6, T.val (D.int IntKind.i64 (untilR s.pat day))), (14, T.val (D.bool (decide (untilR s.pat day ≤ s.next)))), (17, T.val (D.bool (decide ((128 : Int) < untilR s.pat day)))), (21, T.own true (D.agg [D.int IntKind.i64 zIss.vol, D.int IntKind.i64 zIss.num, D.int IntKind.i64 zIss.last, D.int IntKind.i64 zIss.day, D.int IntKind.i64 zIss.st, D.int IntKind.i64 zIss.item]) (List.map encIss s.iss)), (23, T.val (D.agg [D.int IntKind.i64 s.pat.start, D.int IntKind.i64 s.pat.every, D.int IntKind.i64 s.pat.per, D.int IntKind.i64 s.pat.first, encInts s.pat.skip, encInts s.pat.dbl])), (25, T.val (D.int IntKind.i64 s.next)), (26, T.val (D.int IntKind.i64 (untilR s.pat day))), (27, T.ptr 2 7)] ?_ fun h_1_2_4_6 => ?_
        · skip
          refine coreS.step E_ok [9] (by kernel_rfl) (by simp) ?_
          refine anyS.cons rfl ?_ ?_
          · skip
            simp [encSer_eq, encIsss_eq, encIss_eq]
            try simp (disch := omega) only [wrap_i64]
            repeat refine ⟨by first | omega | assumption | (simp only [maxLen]; omega) | (intros; omega) | decide, ?_⟩
            refine contS.now (f' := 5) (l' := #[true, true, true, true, true, true, true, true, true, true, false, false, false, false, false]) ?_ rfl (by kernel_rfl)
            refine coreS.dry E_ok (by kernel_rfl) 10 rfl rfl (by kernel_rfl) (by kernel_rfl) ?_
            simp [encSer_eq, encIsss_eq, encIss_eq]
            try simp (disch := omega) only [wrap_i64]
            repeat refine ⟨by first | omega | assumption | (simp only [maxLen]; omega) | (intros; omega) | decide, ?_⟩
            exact contS.mk (by simp [Weak, TW, T.plain, encSer_eq, encIsss_eq, encIss_eq]) h_1_2_4_6_9 (by kernel_rfl)
          exact anyS.nil
        refine contS.cut 7 #[true, true, false, true, false, true, false, true, true, true, true, false, false, false, false] [(0, T.val (D.agg [D.int IntKind.i64 s.rcd, D.int IntKind.i64 s.pat.start, D.int IntKind.i64 s.pat.every, D.int IntKind.i64 s.pat.per, D.int IntKind.i64 s.pat.first, encInts s.pat.skip, encInts s.pat.dbl, D.int IntKind.i64 s.next, (D.agg [D.int IntKind.i64 zIss.vol, D.int IntKind.i64 zIss.num, D.int IntKind.i64 zIss.last, D.int IntKind.i64 zIss.day, D.int IntKind.i64 zIss.st, D.int IntKind.i64 zIss.item]).slice (List.map encIss s.iss)])), (1, T.val (D.int IntKind.i64 day)), (2, T.box [C.d (D.int IntKind.i64 s.rcd), C.d (D.int IntKind.i64 s.pat.start), C.d (D.int IntKind.i64 s.pat.every), C.d (D.int IntKind.i64 s.pat.per), C.d (D.int IntKind.i64 s.pat.first), C.d (encInts s.pat.skip), C.d (encInts s.pat.dbl), C.d (D.int IntKind.i64 s.next), C.d ((D.agg [D.int IntKind.i64 zIss.vol, D.int IntKind.i64 zIss.num, D.int IntKind.i64 zIss.last, D.int IntKind.i64 zIss.day, D.int IntKind.i64 zIss.st, D.int IntKind.i64 zIss.item]).slice (List.map encIss s.iss))]), (4, T.box [C.d (D.int IntKind.i64 (0 : Int)), C.d (D.int IntKind.i64 (0 : Int)), C.d (D.int IntKind.i64 (0 : Int)), C.d (D.int IntKind.i64 (0 : Int)), C.d (D.int IntKind.i64 (0 : Int)), C.d ((D.int IntKind.i64 (0 : Int)).slice []), C.d ((D.int IntKind.i64 (0 : Int)).slice []), C.d (D.int IntKind.i64 (0 : Int)), C.d ((D.agg [D.int IntKind.i64 (0 : Int), D.int IntKind.i64 (0 : Int), D.int IntKind.i64 (0 : Int), D.int IntKind.i64 (0 : Int), D.int IntKind.i64 (0 : Int), D.int IntKind.i64 (0 : Int)]).slice [])]), (5, T.val (D.int IntKind.i64 (0 : Int))), (6, T.val (D.int IntKind.i64 (untilR s.pat day))), (14, T.val (D.bool (decide (untilR s.pat day ≤ s.next)))), (17, T.val (D.bool (decide ((128 : Int) < untilR s.pat day)))), (20, T.val ((D.agg [D.int IntKind.i64 zIss.vol, D.int IntKind.i64 zIss.num, D.int IntKind.i64 zIss.last, D.int IntKind.i64 zIss.day, D.int IntKind.i64 zIss.st, D.int IntKind.i64 zIss.item]).slice (List.map encIss s.iss))), (22, T.ptr 2 1), (24, T.ptr 2 7), (29, T.val (D.int IntKind.i64 (untilR s.pat day - s.next)))] ?_ fun h_1_9 => ?_
        · skip
          refine coreS.step E_ok [2, 4, 6] (by kernel_rfl) (by simp) ?_
          refine anyS.cons rfl ?_ ?_
          · skip
            simp [encSer_eq, encIsss_eq, encIss_eq]
            try simp (disch := omega) only [wrap_i64]
            repeat refine ⟨by first | omega | assumption | (simp only [maxLen]; omega) | (intros; omega) | decide, ?_⟩
            refine meet.of (slices_Clone_api_Issue_api_Issue s.iss (by omega)) ?_
            simp [encSer_eq, encIsss_eq, encIss_eq]
            try simp (disch := omega) only [wrap_i64]
            repeat refine ⟨by first | omega | assumption | (simp only [maxLen]; omega) | (intros; omega) | decide, ?_⟩
            exact contS.mk (by simp [Weak, TW, T.plain, encSer_eq, encIsss_eq, encIss_eq]) h_1_2_9 (by kernel_rfl)
          refine anyS.cons rfl ?_ ?_
          · skip
            simp [encSer_eq, encIsss_eq, encIss_eq]
            try simp (disch := omega) only [wrap_i64]
            repeat refine ⟨by first | omega | assumption | (simp only [maxLen]; omega) | (intros; omega) | decide, ?_⟩
            exact contS.mk (by simp [Weak, TW, T.plain, encSer_eq, encIsss_eq, encIss_eq]) h_1_4_9 (by kernel_rfl)
          refine anyS.cons rfl ?_ ?_
          · skip
            simp [encSer_eq, encIsss_eq, encIss_eq]
            try simp (disch := omega) only [wrap_i64]
            repeat refine ⟨by first | omega | assumption | (simp only [maxLen]; omega) | (intros; omega) | decide, ?_⟩
            exact contS.mk (by simp [Weak, TW, T.plain, encSer_eq, encIsss_eq, encIss_eq]) h_1_6_9 (by kernel_rfl)
          exact anyS.nil
        refine contS.cut 7 #[true, false, false, true, true, true, false, true, true, true, true, false, false, false, false] [(0, T.val (D.agg [D.int IntKind.i64 s.rcd, D.int IntKind.i64 s.pat.start, D.int IntKind.i64 s.pat.every, D.int IntKind.i64 s.pat.per, D.int IntKind.i64 s.pat.first, encInts s.pat.skip, encInts s.pat.dbl, D.int IntKind.i64 s.next, (D.agg [D.int IntKind.i64 zIss.vol, D.int IntKind.i64 zIss.num, D.int IntKind.i64 zIss.last, D.int IntKind.i64 zIss.day, D.int IntKind.i64 zIss.st, D.int IntKind.i64 zIss.item]).slice (List.map encIss s.iss)])), (1, T.val (D.int IntKind.i64 day)), (2, T.box [C.d (D.int IntKind.i64 s.rcd), C.d (D.int IntKind.i64 s.pat.start), C.d (D.int IntKind.i64 s.pat.every), C.d (D.int IntKind.i64 s.pat.per), C.d (D.int IntKind.i64 s.pat.first), C.d (encInts s.pat.skip), C.d (encInts s.pat.dbl), C.d (D.int IntKind.i64 s.next), C.d ((D.agg [D.int IntKind.i64 zIss.vol, D.int IntKind.i64 zIss.num, D.int IntKind.i64 zIss.last, D.int IntKind.i64 zIss.day, D.int IntKind.i64 zIss.st, D.int IntKind.i64 zIss.item]).slice (List.map encIss s.iss))]), (4, T.box [C.d (D.int IntKind.i64 (0 : Int)), C.d (D.int IntKind.i64 (0 : Int)), C.d (D.int IntKind.i64 (0 : Int)), C.d (D.int IntKind.i64 (0 : Int)), C.d (D.int IntKind.i64 (0 : Int)), C.d ((D.int IntKind.i64 (0 : Int)).slice []), C.d ((D.int IntKind.i64 (0 : Int)).slice []), C.d (D.int IntKind.i64 (0 : Int)), C.d ((D.agg [D.int IntKind.i64 (0 : Int), D.int IntKind.i64 (0 : Int), D.int IntKind.i64 (0 : Int), D.int IntKind.i64 (0 : Int), D.int IntKind.i64 (0 : Int), D.int IntKind.i64 (0 : Int)]).slice [])]), (5, T.val (D.int IntKind.i64 (0 : Int))), (6, T.val (D.int IntKind.i64 (untilR s.pat day))), (14, T.val (D.bool (decide (untilR s.pat day ≤ s.next)))), (17, T.val (D.bool (decide ((128 : Int) < untilR s.pat day)))), (19, T.ptr 2 8), (23, T.val (D.agg [D.int IntKind.i64 s.pat.start, D.int IntKind.i64 s.pat.every, D.int IntKind.i64 s.pat.per, D.int IntKind.i64 s.pat.first, encInts s.pat.skip, encInts s.pat.dbl])), (24, T.ptr 2 7), (29, T.val (D.int IntKind.i64 (untilR s.pat day - s.next)))] ?_ fun h_4_9 => ?_
        · skip
          refine coreS.step E_ok [1, 6] (by kernel_rfl) (by simp) ?_
          refine anyS.cons rfl ?_ ?_
          · skip
            simp [encSer_eq, encIsss_eq, encIss_eq]
            try simp (disch := omega) only [wrap_i64]
            repeat refine ⟨by first | omega | assumption | (simp only [maxLen]; omega) | (intros; omega) | decide, ?_⟩
            exact contS.mk (by simp [Weak, TW, T.plain, encSer_eq, encIsss_eq, encIss_eq]) h_1_4_9 (by kernel_rfl)
          refine anyS.cons rfl ?_ ?_
          · skip
            simp [encSer_eq, encIsss_eq, encIss_eq]
            try simp (disch := omega) only [wrap_i64]
            repeat refine ⟨by first | omega | assumption | (simp only [maxLen]; omega) | (intros; omega) | decide, ?_⟩
            exact contS.mk (by simp [Weak, TW, T.plain, encSer_eq, encIsss_eq, encIss_eq]) h_4_6_9 (by kernel_rfl)
          exact anyS.nil
        refine contS.cut 7 #[true, false, false, true, false, true, true, true, true, true, true, false, false, false, false] [(0, T.val (D.agg [D.int IntKind.i64 s.rcd, D.int IntKind.i64 s.pat.start, D.int IntKind.i64 s.pat.every, D.int IntKind.i64 s.pat.per, D.int IntKind.i64 s.pat.first, encInts s.pat.skip, encInts s.pat.dbl, D.int IntKind.i64 s.next, (D.agg [D.int IntKind.i64 zIss.vol, D.int IntKind.i64 zIss.num, D.int IntKind.i64 zIss.last, D.int IntKind.i64 zIss.day, D.int IntKind.i64 zIss.st, D.int IntKind.i64 zIss.item]).slice (List.map encIss s.iss)])), (1, T.val (D.int IntKind.i64 day)), (2, T.box [C.d (D.int IntKind.i64 s.rcd), C.d (D.int IntKind.i64 s.pat.start), C.d (D.int IntKind.i64 s.pat.every), C.d (D.int IntKind.i64 s.pat.per), C.d (D.int IntKind.i64 s.pat.first), C.d (encInts s.pat.skip), C.d (encInts s.pat.dbl), C.d (D.int IntKind.i64 s.next), C.d ((D.agg [D.int IntKind.i64 zIss.vol, D.int IntKind.i64 zIss.num, D.int IntKind.i64 zIss.last, D.int IntKind.i64 zIss.day, D.int IntKind.i64 zIss.st, D.int IntKind.i64 zIss.item]).slice (List.map encIss s.iss))]), (4, T.box [C.d (D.int IntKind.i64 (0 : Int)), C.d (D.int IntKind.i64 (0 : Int)), C.d (D.int IntKind.i64 (0 : Int)), C.d (D.int IntKind.i64 (0 : Int)), C.d (D.int IntKind.i64 (0 : Int)), C.d ((D.int IntKind.i64 (0 : Int)).slice []), C.d ((D.int IntKind.i64 (0 : Int)).slice []), C.d (D.int IntKind.i64 (0 : Int)), C.d ((D.agg [D.int IntKind.i64 (0 : Int), D.int IntKind.i64 (0 : Int), D.int IntKind.i64 (0 : Int), D.int IntKind.i64 (0 : Int), D.int IntKind.i64 (0 : Int), D.int IntKind.i64 (0 : Int)]).slice [])]), (5, T.val (D.int IntKind.i64 (0 : Int))), (6, T.val (D.int IntKind.i64 (untilR s.pat day))), (14, T.val (D.bool (decide (untilR s.pat day ≤ s.next)))), (17, T.val (D.bool (decide ((128 : Int) < untilR s.pat day)))), (19, T.ptr 2 8), (22, T.ptr 2 1), (25, T.val (D.int IntKind.i64 s.next)), (29, T.val (D.int IntKind.i64 (untilR s.pat day - s.next)))] ?_ fun h_6_9 => ?_
        · skip
          refine coreS.step E_ok [1, 4] (by kernel_rfl) (by simp) ?_
          refine anyS.cons rfl ?_ ?_
          · skip
            simp [encSer_eq, encIsss_eq, encIss_eq]
            try simp (disch := omega) only [wrap_i64]
            repeat refine ⟨by first | omega | assumption | (simp only [maxLen]; omega) | (intros; omega) | decide, ?_⟩
            exact contS.mk (by simp [Weak, TW, T.plain, encSer_eq, encIsss_eq, encIss_eq]) h_1_6_9 (by kernel_rfl)
          refine anyS.cons rfl ?_ ?_
          · skip
            simp [encSer_eq, encIsss_eq, encIss_eq]
            try simp (disch := omega) only [wrap_i64]
            repeat refine ⟨by first | omega | assumption | (simp only [maxLen]; omega) | (intros; omega) | decide, ?_⟩
            exact contS.mk (by simp [Weak, TW, T.plain, encSer_eq, encIsss_eq, encIss_eq]) h_4_6_9 (by kernel_rfl)
          exact anyS.nil
        refine contS.cut 7 #[true, true, true, true, true, true, false, true, true, false, false, false, false, false, false] [(0, T.val (D.agg [D.int IntKind.i64 s.rcd, D.int IntKind.i64 s.pat.start, D.int IntKind.i64 s.pat.every, D.int IntKind.i64 s.pat.per, D.int IntKind.i64 s.pat.first, encInts s.pat.skip, encInts s.pat.dbl, D.int IntKind.i64 s.next, (D.agg [D.int IntKind.i64 zIss.vol, D.int IntKind.i64 zIss.num, D.int IntKind.i64 zIss.last, D.int IntKind.i64 zIss.day, D.int IntKind.i64 zIss.st, D.int IntKind.i64 zIss.item]).slice (List.map encIss s.iss)])), (1, T.val (D.int IntKind.i64 day)), (2, T.box [C.d (D.int IntKind.i64 s.rcd), C.d (D.int IntKind.i64 s.pat.start), C.d (D.int IntKind.i64 s.pat.every), C.d (D.int IntKind.i64 s.pat.per), C.d (D.int IntKind.i64 s.pat.first), C.d (encInts s.pat.skip), C.d (encInts s.pat.dbl), C.d (D.int IntKind.i64 s.next), C.d ((D.agg [D.int IntKind.i64 zIss.vol, D.int IntKind.i64 zIss.num, D.int IntKind.i64 zIss.last, D.int IntKind.i64 zIss.day, D.int IntKind.i64 zIss.st, D.int IntKind.i64 zIss.item]).slice (List.map encIss s.iss))]), (4, T.box [C.d (D.int IntKind.i64 (0 : Int)), C.d (D.int IntKind.i64 (0 : Int)), C.d (D.int IntKind.i64 (0 : Int)), C.d (D.int IntKind.i64 (0 : Int)), C.d (D.int IntKind.i64 (0 : Int)), C.d ((D.int IntKind.i64 (0 : Int)).slice []), C.d ((D.int IntKind.i64 (0 : Int)).slice []), C.d (D.int IntKind.i64 (0 : Int)), C.d ((D.agg [D.int IntKind.i64 (0 : Int), D.int IntKind.i64 (0 : Int), D.int IntKind.i64 (0 : Int), D.int IntKind.i64 (0 : Int), D.int IntKind.i64 (0 : Int), D.int IntKind.i64 (0 : Int)]).slice [])]), (5, T.val (D.int IntKind.i64 (0 : Int))), (6, T.val (D.int IntKind.i64 (untilR s.pat day))), (14, T.val (D.bool (decide (untilR s.pat day ≤ s.next)))), (17, T.val (D.bool (decide ((128 : Int) < untilR s.pat day)))), (21, T.own true (D.agg [D.int IntKind.i64 zIss.vol, D.int IntKind.i64 zIss.num, D.int IntKind.i64 zIss.last, D.int IntKind.i64 zIss.day, D.int IntKind.i64 zIss.st, D.int IntKind.i64 zIss.item]) (List.map encIss s.iss)), (23, T.val (D.agg [D.int IntKind.i64 s.pat.start, D.int IntKind.i64 s.pat.every, D.int IntKind.i64 s.pat.per, D.int IntKind.i64 s.pat.first, encInts s.pat.skip, encInts s.pat.dbl])), (24, T.ptr 2 7), (26, T.val (D.int IntKind.i64 (untilR s.pat day))), (27, T.ptr 2 7)] ?_ fun h_1_2_4 => ?_
        · skip
          refine coreS.step E_ok [6, 9] (by kernel_rfl) (by simp) ?_
          refine anyS.cons rfl ?_ ?_
          · skip
            simp [encSer_eq, encIsss_eq, encIss_eq]
            try simp (disch := omega) only [wrap_i64]
            repeat refine ⟨by first | omega | assumption | (simp only [maxLen]; omega) | (intros; omega) | decide, ?_⟩
            exact contS.mk (by simp [Weak, TW, T.plain, encSer_eq, encIsss_eq, encIss_eq]) h_1_2_4_6 (by kernel_rfl)
          refine anyS.cons rfl ?_ ?_
          · skip
            simp [encSer_eq, encIsss_eq, encIss_eq]
            try simp (disch := omega) only [wrap_i64]
            repeat refine ⟨by first | omega | assumption | (simp only [maxLen]; omega) | (intros; omega) | decide, ?_⟩
            refine contS.now (f' := 6) (l' := #[true, true, true, true, true, true, false, true, true, true, false, false, false, false, false]) ?_ rfl (by kernel_rfl)
            refine coreS.dry E_ok (by kernel_rfl) 10 rfl rfl (by kernel_rfl) (by kernel_rfl) ?_
            simp [encSer_eq, encIsss_eq, encIss_eq]
            try simp (disch := omega) only [wrap_i64]
            repeat refine ⟨by first | omega | assumption | (simp only [maxLen]; omega) | (intros; omega) | decide, ?_⟩
            exact contS.mk (by simp [Weak, TW, T.plain, encSer_eq, encIsss_eq, encIss_eq]) h_1_2_4_9 (by kernel_rfl)
          exact anyS.nil
        refine contS.cut 7 #[true, true, true, true, false, true, true, true, true, false, false, false, false, false, false] [(0, T.val (D.agg [D.int IntKind.i64 s.rcd, D.int IntKind.i64 s.pat.start, D.int IntKind.i64 s.pat.every, D.int IntKind.i64 s.pat.per, D.int IntKind.i64 s.pat.first, encInts s.pat.skip, encInts s.pat.dbl, D.int IntKind.i64 s.next, (D.agg [D.int IntKind.i64 zIss.vol, D.int IntKind.i64 zIss.num, D.int IntKind.i64 zIss.last, D.int IntKind.i64 zIss.day, D.int IntKind.i64 zIss.st, D.int IntKind.i64 zIss.item]).slice (List.map encIss s.iss)])), (1, T.val (D.int IntKind.i64 day)), (2, T.box [C.d (D.int IntKind.i64 s.rcd), C.d (D.int IntKind.i64 s.pat.start), C.d (D.int IntKind.i64 s.pat.every), C.d (D.int IntKind.i64 s.pat.per), C.d (D.int IntKind.i64 s.pat.first), C.d (encInts s.pat.skip), C.d (encInts s.pat.dbl), C.d (D.int IntKind.i64 s.next), C.d ((D.agg [D.int IntKind.i64 zIss.vol, D.int IntKind.i64 zIss.num, D.int IntKind.i64 zIss.last, D.int IntKind.i64 zIss.day, D.int IntKind.i64 zIss.st, D.int IntKind.i64 zIss.item]).slice (List.map encIss s.iss))]), (4, T.box [C.d (D.int IntKind.i64 (0 : Int)), C.d (D.int IntKind.i64 (0 : Int)), C.d (D.int IntKind.i64 (0 : Int)), C.d (D.int IntKind.i64 (0 : Int)), C.d (D.int IntKind.i64 (0 : Int)), C.d ((D.int IntKind.i64 (0 : Int)).slice []), C.d ((D.int IntKind.i64 (0 : Int)).slice []), C.d (D.int IntKind.i64 (0 : Int)), C.d ((D.agg [D.int IntKind.i64 (0 : Int), D.int IntKind.i64 (0 : Int), D.int IntKind.i64 (0 : Int), D.int IntKind.i64 (0 : Int), D.int IntKind.i64 (0 : Int), D.int IntKind.i64 (0 : Int)]).slice [])]), (5, T.val (D.int IntKind.i64 (0 : Int))), (6, T.val (D.int IntKind.i64 (untilR s.pat day))), (14, T.val (D.bool (decide (untilR s.pat day ≤ s.next)))), (17, T.val (D.bool (decide ((128 : Int) < untilR s.pat day)))), (21, T.own true (D.agg [D.int IntKind.i64 zIss.vol, D.int IntKind.i64 zIss.num, D.int IntKind.i64 zIss.last, D.int IntKind.i64 zIss.day, D.int IntKind.i64 zIss.st, D.int IntKind.i64 zIss.item]) (List.map encIss s.iss)), (22, T.ptr 2 1), (25, T.val (D.int IntKind.i64 s.next)), (26, T.val (D.int IntKind.i64 (untilR s.pat day))), (27, T.ptr 2 7)] ?_ fun h_1_2_6 => ?_
        · skip
          refine coreS.step E_ok [4, 9] (by kernel_rfl) (by simp) ?_
          refine anyS.cons rfl ?_ ?_
          · skip
            simp [encSer_eq, encIsss_eq, encIss_eq]
            try simp (disch := omega) only [wrap_i64]
            repeat refine ⟨by first | omega | assumption | (simp only [maxLen]; omega) | (intros; omega) | decide, ?_⟩
            exact contS.mk (by simp [Weak, TW, T.plain, encSer_eq, encIsss_eq, encIss_eq]) h_1_2_4_6 (by kernel_rfl)
          refine anyS.cons rfl ?_ ?_
          · skip
            simp [encSer_eq, encIsss_eq, encIss_eq]
            try simp (disch := omega) only [wrap_i64]
            repeat refine ⟨by first | omega | assumption | (simp only [maxLen]; omega) | (intros; omega) | decide, ?_⟩
            refine contS.now (f' := 6) (l' := #[true, true, true, true, false, true, true, true, true, true, false, false, false, false, false]) ?_ rfl (by kernel_rfl)
            refine coreS.dry E_ok (by kernel_rfl) 10 rfl rfl (by kernel_rfl) (by kernel_rfl) ?_
            simp [encSer_eq, encIsss_eq, encIss_eq]
            try simp (disch := omega) only [wrap_i64]
            repeat refine ⟨by first | omega | assumption | (simp only [maxLen]; omega) | (intros; omega) | decide, ?_⟩
            exact contS.mk (by simp [Weak, TW, T.plain, encSer_eq, encIsss_eq, encIss_eq]) h_1_2_6_9 (by kernel_rfl)
          exact anyS.nil
        refine contS.cut 7 #[true, true, false, true, true, true, true, true, true, false, false, false, false, false, false] [(0, T.val (D.agg [D.int IntKind.i64 s.rcd, D.int IntKind.i64 s.pat.start, D.int IntKind.i64 s.pat.every, D.int IntKind.i64 s.pat.per, D.int IntKind.i64 s.pat.first, encInts s.pat.skip, encInts s.pat.dbl, D.int IntKind.i64 s.next, (D.agg [D.int IntKind.i64 zIss.vol, D.int IntKind.i64 zIss.num, D.int IntKind.i64 zIss.last, D.int IntKind.i64 zIss.day, D.int IntKind.i64 zIss.st, D.int IntKind.i64 zIss.item]).slice (List.map encIss s.iss)])), (1, T.val (D.int IntKind.i64 day)), (2, T.box [C.d (D.int IntKind.i64 s.rcd), C.d (D.int IntKind.i64 s.pat.start), C.d (D.int IntKind.i64 s.pat.every), C.d (D.int IntKind.i64 s.pat.per), C.d (D.int IntKind.i64 s.pat.first), C.d (encInts s.pat.skip), C.d (encInts s.pat.dbl), C.d (D.int IntKind.i64 s.next), C.d ((D.agg [D.int IntKind.i64 zIss.vol, D.int IntKind.i64 zIss.num, D.int IntKind.i64 zIss.last, D.int IntKind.i64 zIss.day, D.int IntKind.i64 zIss.st, D.int IntKind.i64 zIss.item]).slice (List.map encIss s.iss))]), (4, T.box [C.d (D.int IntKind.i64 (0 : Int)), C.d (D.int IntKind.i64 (0 : Int)), C.d (D.int IntKind.i64 (0 : Int)), C.d (D.int IntKind.i64 (0 : Int)), C.d (D.int IntKind.i64 (0 : Int)), C.d ((D.int IntKind.i64 (0 : Int)).slice []), C.d ((D.int IntKind.i64 (0 : Int)).slice []), C.d (D.int IntKind.i64 (0 : Int)), C.d ((D.agg [D.int IntKind.i64 (0 : Int), D.int IntKind.i64 (0 : Int), D.int IntKind.i64 (0 : Int), D.int IntKind.i64 (0 : Int), D.int IntKind.i64 (0 : Int), D.int IntKind.i64 (0 : Int)]).slice [])]), (5, T.val (D.int IntKind.i64 (0 : Int))), (6, T.val (D.int IntKind.i64 (untilR s.pat day))), (14, T.val (D.bool (decide (untilR s.pat day ≤ s.next)))), (17, T.val (D.bool (decide ((128 : Int) < untilR s.pat day)))), (20, T.val ((D.agg [D.int IntKind.i64 zIss.vol, D.int IntKind.i64 zIss.num, D.int IntKind.i64 zIss.last, D.int IntKind.i64 zIss.day, D.int IntKind.i64 zIss.st, D.int IntKind.i64 zIss.item]).slice (List.map encIss s.iss))), (23, T.val (D.agg [D.int IntKind.i64 s.pat.start, D.int IntKind.i64 s.pat.every, D.int IntKind.i64 s.pat.per, D.int IntKind.i64 s.pat.first, encInts s.pat.skip, encInts s.pat.dbl])), (25, T.val (D.int IntKind.i64 s.next)), (26, T.val (D.int IntKind.i64 (untilR s.pat day))), (27, T.ptr 2 7)] ?_ fun h_1_4_6 => ?_
        · skip
          refine coreS.step E_ok [2, 9] (by kernel_rfl) (by simp) ?_
          refine anyS.cons rfl ?_ ?_
          · skip
            simp [encSer_eq, encIsss_eq, encIss_eq]
            try simp (disch := omega) only [wrap_i64]
            repeat refine ⟨by first | omega | assumption | (simp only [maxLen]; omega) | (intros; omega) | decide, ?_⟩
            refine meet.of (slices_Clone_api_Issue_api_Issue s.iss (by omega)) ?_
            simp [encSer_eq, encIsss_eq, encIss_eq]
            try simp (disch := omega) only [wrap_i64]
            repeat refine ⟨by first | omega | assumption | (simp only [maxLen]; omega) | (intros; omega) | decide, ?_⟩
            exact contS.mk (by simp [Weak, TW, T.plain, encSer_eq, encIsss_eq, encIss_eq]) h_1_2_4_6 (by kernel_rfl)
          refine anyS.cons rfl ?_ ?_
          · skip
            simp [encSer_eq, encIsss_eq, encIss_eq]
            try simp (disch := omega) only [wrap_i64]
            repeat refine ⟨by first | omega | assumption | (simp only [maxLen]; omega) | (intros; omega) | decide, ?_⟩
            refine contS.now (f' := 6) (l' := #[true, true, false, true, true, true, true, true, true, true, false, false, false, false, false]) ?_ rfl (by kernel_rfl)
            refine coreS.dry E_ok (by kernel_rfl) 10 rfl rfl (by kernel_rfl) (by kernel_rfl) ?_
            simp [encSer_eq, encIsss_eq, encIss_eq]
            try simp (disch := omega) only [wrap_i64]
            repeat refine ⟨by first | omega | assumption | (simp only [maxLen]; omega) | (intros; omega) | decide, ?_⟩
            exact contS.mk (by simp [Weak, TW, T.plain, encSer_eq, encIsss_eq, encIss_eq]) h_1_4_6_9 (by kernel_rfl)
          exact anyS.nil
        refine contS.cut 8 #[true, false, false, true, false, true, false, true, true, true, true, false, false, false, false] [(0, T.val (D.agg [D.int IntKind.i64 s.rcd, D.int IntKind.i64 s.pat.start, D.int IntKind.i64 s.pat.every, D.int IntKind.i64 s.pat.per, D.int IntKind.i64 s.pat.first, encInts s.pat.skip, encInts s.pat.dbl, D.int IntKind.i64 s.next, (D.agg [D.int IntKind.i64 zIss.vol, D.int IntKind.i64 zIss.num, D.int IntKind.i64 zIss.last, D.int IntKind.i64 zIss.day, D.int IntKind.i64 zIss.st, D.int IntKind.i64 zIss.item]).slice (List.map encIss s.iss)])), (1, T.val (D.int IntKind.i64 day)), (2, T.box [C.d (D.int IntKind.i64 s.rcd), C.d (D.int IntKind.i64 s.pat.start), C.d (D.int IntKind.i64 s.pat.every), C.d (D.int IntKind.i64 s.pat.per), C.d (D.int IntKind.i64 s.pat.first), C.d (encInts s.pat.skip), C.d (encInts s.pat.dbl), C.d (D.int IntKind.i64 s.next), C.d ((D.agg [D.int IntKind.i64 zIss.vol, D.int IntKind.i64 zIss.num, D.int IntKind.i64 zIss.last, D.int IntKind.i64 zIss.day, D.int IntKind.i64 zIss.st, D.int IntKind.i64 zIss.item]).slice (List.map encIss s.iss))]), (4, T.box [C.d (D.int IntKind.i64 (0 : Int)), C.d (D.int IntKind.i64 (0 : Int)), C.d (D.int IntKind.i64 (0 : Int)), C.d (D.int IntKind.i64 (0 : Int)), C.d (D.int IntKind.i64 (0 : Int)), C.d ((D.int IntKind.i64 (0 : Int)).slice []), C.d ((D.int IntKind.i64 (0 : Int)).slice []), C.d (D.int IntKind.i64 (0 : Int)), C.d ((D.agg [D.int IntKind.i64 (0 : Int), D.int IntKind.i64 (0 : Int), D.int IntKind.i64 (0 : Int), D.int IntKind.i64 (0 : Int), D.int IntKind.i64 (0 : Int), D.int IntKind.i64 (0 : Int)]).slice [])]), (5, T.val (D.int IntKind.i64 (0 : Int))), (6, T.val (D.int IntKind.i64 (untilR s.pat day))), (14, T.val (D.bool (decide (untilR s.pat day ≤ s.next)))), (17, T.val (D.bool (decide ((128 : Int) < untilR s.pat day)))), (19, T.ptr 2 8), (22, T.ptr 2 1), (24, T.ptr 2 7), (29, T.val (D.int IntKind.i64 (untilR s.pat day - s.next)))] ?_ fun h_9 => ?_
        · skip
          refine coreS.step E_ok [1, 4, 6] (by kernel_rfl) (by simp) ?_
          refine anyS.cons rfl ?_ ?_
          · skip
            simp [encSer_eq, encIsss_eq, encIss_eq]
            try simp (disch := omega) only [wrap_i64]
            repeat refine ⟨by first | omega | assumption | (simp only [maxLen]; omega) | (intros; omega) | decide, ?_⟩
            exact contS.mk (by simp [Weak, TW, T.plain, encSer_eq, encIsss_eq, encIss_eq]) h_1_9 (by kernel_rfl)
          refine anyS.cons rfl ?_ ?_
          · skip
            simp [encSer_eq, encIsss_eq, encIss_eq]
            try simp (disch := omega) only [wrap_i64]
            repeat refine ⟨by first | omega | assumption | (simp only [maxLen]; omega) | (intros; omega) | decide, ?_⟩
            exact contS.mk (by simp [Weak, TW, T.plain, encSer_eq, encIsss_eq, encIss_eq]) h_4_9 (by kernel_rfl)
          refine anyS.cons rfl ?_ ?_
          · skip
            simp [encSer_eq, encIsss_eq, encIss_eq]
            try simp (disch := omega) only [wrap_i64]
            repeat refine ⟨by first | omega | assumption | (simp only [maxLen]; omega) | (intros; omega) | decide, ?_⟩
            exact contS.mk (by simp [Weak, TW, T.plain, encSer_eq, encIsss_eq, encIss_eq]) h_6_9 (by kernel_rfl)
          exact anyS.nil
        refine contS.cut 8 #[true, true, true, true, false, true, false, true, true, false, false, false, false, false, false] [(0, T.val (D.agg [D.int IntKind.i64 s.rcd, D.int IntKind.i64 s.pat.start, D.int IntKind.i64 s.pat.every, D.int IntKind.i64 s.pat.per, D.int IntKind.i64 s.pat.first, encInts s.pat.skip, encInts s.pat.dbl, D.int IntKind.i64 s.next, (D.agg [D.int IntKind.i64 zIss.vol, D.int IntKind.i64 zIss.num, D.int IntKind.i64 zIss.last, D.int IntKind.i64 zIss.day, D.int IntKind.i64 zIss.st, D.int IntKind.i64 zIss.item]).slice (List.map encIss s.iss)])), (1, T.val (D.int IntKind.i64 day)), (2, T.box [C.d (D.int IntKind.i64 s.rcd), C.d (D.int IntKind.i64 s.pat.start), C.d (D.int IntKind.i64 s.pat.every), C.d (D.int IntKind.i64 s.pat.per), C.d (D.int IntKind.i64 s.pat.first), C.d (encInts s.pat.skip), C.d (encInts s.pat.dbl), C.d (D.int IntKind.i64 s.next), C.d ((D.agg [D.int IntKind.i64 zIss.vol, D.int IntKind.i64 zIss.num, D.int IntKind.i64 zIss.last, D.int IntKind.i64 zIss.day, D.int IntKind.i64 zIss.st, D.int IntKind.i64 zIss.item]).slice (List.map encIss s.iss))]), (4, T.box [C.d (D.int IntKind.i64 (0 : Int)), C.d (D.int IntKind.i64 (0 : Int)), C.d (D.int IntKind.i64 (0 : Int)), C.d (D.int IntKind.i64 (0 : Int)), C.d (D.int IntKind.i64 (0 : Int)), C.d ((D.int IntKind.i64 (0 : Int)).slice []), C.d ((D.int IntKind.i64 (0 : Int)).slice []), C.d (D.int IntKind.i64 (0 : Int)), C.d ((D.agg [D.int IntKind.i64 (0 : Int), D.int IntKind.i64 (0 : Int), D.int IntKind.i64 (0 : Int), D.int IntKind.i64 (0 : Int), D.int IntKind.i64 (0 : Int), D.int IntKind.i64 (0 : Int)]).slice [])]), (5, T.val (D.int IntKind.i64 (0 : Int))), (6, T.val (D.int IntKind.i64 (untilR s.pat day))), (14, T.val (D.bool (decide (untilR s.pat day ≤ s.next)))), (17, T.val (D.bool (decide ((128 : Int) < untilR s.pat day)))), (21, T.own true (D.agg [D.int IntKind.i64 zIss.vol, D.int IntKind.i64 zIss.num, D.int IntKind.i64 zIss.last, D.int IntKind.i64 zIss.day, D.int IntKind.i64 zIss.st, D.int IntKind.i64 zIss.item]) (List.map encIss s.iss)), (22, T.ptr 2 1), (24, T.ptr 2 7), (26, T.val (D.int IntKind.i64 (untilR s.pat day))), (27, T.ptr 2 7)] ?_ fun h_1_2 => ?_
        · skip
          refine coreS.step E_ok [4, 6, 9] (by kernel_rfl) (by simp) ?_
          refine anyS.cons rfl ?_ ?_
          · skip
            simp [encSer_eq, encIsss_eq, encIss_eq]
            try simp (disch := omega) only [wrap_i64]
            repeat refine ⟨by first | omega | assumption | (simp only [maxLen]; omega) | (intros; omega) | decide, ?_⟩
            exact contS.mk (by simp [Weak, TW, T.plain, encSer_eq, encIsss_eq, encIss_eq]) h_1_2_4 (by kernel_rfl)
          refine anyS.cons rfl ?_ ?_
          · skip
            simp [encSer_eq, encIsss_eq, encIss_eq]
            try simp (disch := omega) only [wrap_i64]
            repeat refine ⟨by first | omega | assumption | (simp only [maxLen]; omega) | (intros; omega) | decide, ?_⟩
            exact contS.mk (by simp [Weak, TW, T.plain, encSer_eq, encIsss_eq, encIss_eq]) h_1_2_6 (by kernel_rfl)
          refine anyS.cons rfl ?_ ?_
          · skip
            simp [encSer_eq, encIsss_eq, encIss_eq]
            try simp (disch := omega) only [wrap_i64]
            repeat refine ⟨by first | omega | assumption | (simp only [maxLen]; omega) | (intros; omega) | decide, ?_⟩
            refine contS.now (f' := 7) (l' := #[true, true, true, true, false, true, false, true, true, true, false, false, false, false, false]) ?_ rfl (by kernel_rfl)
            refine coreS.dry E_ok (by kernel_rfl) 10 rfl rfl (by kernel_rfl) (by kernel_rfl) ?_
            simp [encSer_eq, encIsss_eq, encIss_eq]
            try simp (disch := omega) only [wrap_i64]
            repeat refine ⟨by first | omega | assumption | (simp only [maxLen]; omega) | (intros; omega) | decide, ?_⟩
            exact contS.mk (by simp [Weak, TW, T.plain, encSer_eq, encIsss_eq, encIss_eq]) h_1_2_9 (by kernel_rfl)
          exact anyS.nil
        refine contS.cut 8 #[true, true, false, true, true, true, false, true, true, false, false, false, false, false, false] [(0, T.val (D.agg [D.int IntKind.i64 s.rcd, D.int IntKind.i64 s.pat.start, D.int IntKind.i64 s.pat.every, D.int IntKind.i64 s.pat.per, D.int IntKind.i64 s.pat.first, encInts s.pat.skip, encInts s.pat.dbl, D.int IntKind.i64 s.next, (D.agg [D.int IntKind.i64 zIss.vol, D.int IntKind.i64 zIss.num, D.int IntKind.i64 zIss.last, D.int IntKind.i64 zIss.day, D.int IntKind.i64 zIss.st, D.int IntKind.i64 zIss.item]).slice (List.map encIss s.iss)])), (1, T.val (D.int IntKind.i64 day)), (2, T.box [C.d (D.int IntKind.i64 s.rcd), C.d (D.int IntKind.i64 s.pat.start), C.d (D.int IntKind.i64 s.pat.every), C.d (D.int IntKind.i64 s.pat.per), C.d (D.int IntKind.i64 s.pat.first), C.d (encInts s.pat.skip), C.d (encInts s.pat.dbl), C.d (D.int IntKind.i64 s.next), C.d ((D.agg [D.int IntKind.i64 zIss.vol, D.int IntKind.i64 zIss.num, D.int IntKind.i64 zIss.last, D.int IntKind.i64 zIss.day, D.int IntKind.i64 zIss.st, D.int IntKind.i64 zIss.item]).slice (List.map encIss s.iss))]), (4, T.box [C.d (D.int IntKind.i64 (0 : Int)), C.d (D.int IntKind.i64 (0 : Int)), C.d (D.int IntKind.i64 (0 : Int)), C.d (D.int IntKind.i64 (0 : Int)), C.d (D.int IntKind.i64 (0 : Int)), C.d ((D.int IntKind.i64 (0 : Int)).slice []), C.d ((D.int IntKind.i64 (0 : Int)).slice []), C.d (D.int IntKind.i64 (0 : Int)), C.d ((D.agg [D.int IntKind.i64 (0 : Int), D.int IntKind.i64 (0 : Int), D.int IntKind.i64 (0 : Int), D.int IntKind.i64 (0 : Int), D.int IntKind.i64 (0 : Int), D.int IntKind.i64 (0 : Int)]).slice [])]), (5, T.val (D.int IntKind.i64 (0 : Int))), (6, T.val (D.int IntKind.i64 (untilR s.pat day))), (14, T.val (D.bool (decide (untilR s.pat day ≤ s.next)))), (17, T.val (D.bool (decide ((128 : Int) < untilR s.pat day)))), (20, T.val ((D.agg [D.int IntKind.i64 zIss.vol, D.int IntKind.i64 zIss.num, D.int IntKind.i64 zIss.last, D.int IntKind.i64 zIss.day, D.int IntKind.i64 zIss.st, D.int IntKind.i64 zIss.item]).slice (List.map encIss s.iss))), (23, T.val (D.agg [D.int IntKind.i64 s.pat.start, D.int IntKind.i64 s.pat.every, D.int IntKind.i64 s.pat.per, D.int IntKind.i64 s.pat.first, encInts s.pat.skip, encInts s.pat.dbl])), (24, T.ptr 2 7), (26, T.val (D.int IntKind.i64 (untilR s.pat day))), (27, T.ptr 2 7)] ?_ fun h_1_4 => ?_
        · skip
          refine coreS.step E_ok [2, 6, 9] (by kernel_rfl) (by simp) ?_
          refine anyS.cons rfl ?_ ?_
          · skip
            simp [encSer_eq, encIsss_eq, encIss_eq]
            try simp (disch := omega) only [wrap_i64]
            repeat refine ⟨by first | omega | assumption | (simp only [maxLen]; omega) | (intros; omega) | decide, ?_⟩
            refine meet.of (slices_Clone_api_Issue_api_Issue s.iss (by omega)) ?_
            simp [encSer_eq, encIsss_eq, encIss_eq]
            try simp (disch := omega) only [wrap_i64]
            repeat refine ⟨by first | omega | assumption | (simp only [maxLen]; omega) | (intros; omega) | decide, ?_⟩
            exact contS.mk (by simp [Weak, TW, T.plain, encSer_eq, encIsss_eq, encIss_eq]) h_1_2_4 (by kernel_rfl)
          refine anyS.cons rfl ?_ ?_
          · skip
            simp [encSer_eq, encIsss_eq, encIss_eq]
            try simp (disch := omega) only [wrap_i64]
            repeat refine ⟨by first | omega | assumption | (simp only [maxLen]; omega) | (intros; omega) | decide, ?_⟩
            exact contS.mk (by simp [Weak, TW, T.plain, encSer_eq, encIsss_eq, encIss_eq]) h_1_4_6 (by kernel_rfl)
          refine anyS.cons rfl ?_ ?_
          · skip
            simp [encSer_eq, encIsss_eq, encIss_eq]
            try simp (disch := omega) only [wrap_i64]
            repeat refine ⟨by first | omega | assumption | (simp only [maxLen]; omega) | (intros; omega) | decide, ?_⟩
            refine contS.now (f' := 7) (l' := #[true, true, false, true, true, true, false, true, true, true, false, false, false, false, false]) ?_ rfl (by kernel_rfl)
            refine coreS.dry E_ok (by kernel_rfl) 10 rfl rfl (by kernel_rfl) (by kernel_rfl) ?_
            simp [encSer_eq, encIsss_eq, encIss_eq]
            try simp (disch := omega) only [wrap_i64]
            repeat refine ⟨by first | omega | assumption | (simp only [maxLen]; omega) | (intros; omega) | decide, ?_⟩
            exact contS.mk (by simp [Weak, TW, T.plain, encSer_eq, encIsss_eq, encIss_eq]) h_1_4_9 (by kernel_rfl)
          exact anyS.nil
        refine contS.cut 8 #[true, true, false, true, false, true, true, true, true, false, false, false, false, false, false] [(0, T.val (D.agg [D.int IntKind.i64 s.rcd, D.int IntKind.i64 s.pat.start, D.int IntKind.i64 s.pat.every, D.int IntKind.i64 s.pat.per, D.int IntKind.i64 s.pat.first, encInts s.pat.skip, encInts s.pat.dbl, D.int IntKind.i64 s.next, (D.agg [D.int IntKind.i64 zIss.vol, D.int IntKind.i64 zIss.num, D.int IntKind.i64 zIss.last, D.int IntKind.i64 zIss.day, D.int IntKind.i64 zIss.st, D.int IntKind.i64 zIss.item]).slice (List.map encIss s.iss)])), (1, T.val (D.int IntKind.i64 day)), (2, T.box [C.d (D.int IntKind.i64 s.rcd), C.d (D.int IntKind.i64 s.pat.start), C.d (D.int IntKind.i64 s.pat.every), C.d (D.int IntKind.i64 s.pat.per), C.d (D.int IntKind.i64 s.pat.first), C.d (encInts s.pat.skip), C.d (encInts s.pat.dbl), C.d (D.int IntKind.i64 s.next), C.d ((D.agg [D.int IntKind.i64 zIss.vol, D.int IntKind.i64 zIss.num, D.int IntKind.i64 zIss.last, D.int IntKind.i64 zIss.day, D.int IntKind.i64 zIss.st, D.int IntKind.i64 zIss.item]).slice (List.map encIss s.iss))]), (4, T.box [C.d (D.int IntKind.i64 (0 : Int)), C.d (D.int IntKind.i64 (0 : Int)), C.d (D.int IntKind.i64 (0 : Int)), C.d (D.int IntKind.i64 (0 : Int)), C.d (D.int IntKind.i64 (0 : Int)), C.d ((D.int IntKind.i64 (0 : Int)).slice []), C.d ((D.int IntKind.i64 (0 : Int)).slice []), C.d (D.int IntKind.i64 (0 : Int)), C.d ((D.agg [D.int IntKind.i64 (0 : Int), D.int IntKind.i64 (0 : Int), D.int IntKind.i64 (0 : Int), D.int IntKind.i64 (0 : Int), D.int IntKind.i64 (0 : Int), D.int IntKind.i64 (0 : Int)]).slice [])]), (5, T.val (D.int IntKind.i64 (0 : Int))), (6, T.val (D.int IntKind.i64 (untilR s.pat day))), (14, T.val (D.bool (decide (untilR s.pat day ≤ s.next)))), (17, T.val (D.bool (decide ((128 : Int) < untilR s.pat day)))), (20, T.val ((D.agg [D.int IntKind.i64 zIss.vol, D.int IntKind.i64 zIss.num, D.int IntKind.i64 zIss.last, D.int IntKind.i64 zIss.day, D.int IntKind.i64 zIss.st, D.int IntKind.i64 zIss.item]).slice (List.map encIss s.iss))), (22, T.ptr 2 1), (25, T.val (D.int IntKind.i64 s.next)), (26, T.val (D.int IntKind.i64 (untilR s.pat day))), (27, T.ptr 2 7)] ?_ fun h_1_6 => ?_
        · skip
          refine coreS.step E_ok [2, 4, 9] (by kernel_rfl) (by simp) ?_
          refine anyS.cons rfl ?_ ?_
          · skip
            simp [encSer_eq, encIsss_eq, encIss_eq]
            try simp (disch := omega) only [wrap_i64]
            repeat refine ⟨by first | omega | assumption | (simp only [maxLen]; omega) | (intros; omega) | decide, ?_⟩
            refine meet.of (slices_Clone_api_Issue_api_Issue s.iss (by omega)) ?_
            simp [encSer_eq, encIsss_eq, encIss_eq]
            try simp (disch := omega) only [wrap_i64]
            repeat refine ⟨by first | omega | assumption | (simp only [maxLen]; omega) | (intros; omega) | decide, ?_⟩
            exact contS.mk (by simp [Weak, TW, T.plain, encSer_eq, encIsss_eq, encIss_eq]) h_1_2_6 (by kernel_rfl)
          refine anyS.cons rfl ?_ ?_
          · skip
            simp [encSer_eq, encIsss_eq, encIss_eq]
            try simp (disch := omega) only [wrap_i64]
            repeat refine ⟨by first | omega | assumption | (simp only [maxLen]; omega) | (intros; omega) | decide, ?_⟩
            exact contS.mk (by simp [Weak, TW, T.plain, encSer_eq, encIsss_eq, encIss_eq]) h_1_4_6 (by kernel_rfl)
          refine anyS.cons rfl ?_ ?_
          · skip
            simp [encSer_eq, encIsss_eq, encIss_eq]
            try simp (disch := omega) only [wrap_i64]
            repeat refine ⟨by first | omega | assumption | (simp only [maxLen]; omega) | (intros; omega) | decide, ?_⟩
            refine contS.now (f' := 7) (l' := #[true, true, false, true, false, true, true, true, true, true, false, false, false, false, false]) ?_ rfl (by kernel_rfl)
            refine coreS.dry E_ok (by kernel_rfl) 10 rfl rfl (by kernel_rfl) (by kernel_rfl) ?_
            simp [encSer_eq, encIsss_eq, encIss_eq]
            try simp (disch := omega) only [wrap_i64]
            repeat refine ⟨by first | omega | assumption | (simp only [maxLen]; omega) | (intros; omega) | decide, ?_⟩
            exact contS.mk (by simp [Weak, TW, T.plain, encSer_eq, encIsss_eq, encIss_eq]) h_1_6_9 (by kernel_rfl)
          exact anyS.nil
        refine contS.cut 8 #[true, false, false, true, true, true, true, true, true, false, false, false, false, false, false] [(0, T.val (D.agg [D.int IntKind.i64 s.rcd, D.int IntKind.i64 s.pat.start, D.int IntKind.i64 s.pat.every, D.int IntKind.i64 s.pat.per, D.int IntKind.i64 s.pat.first, encInts s.pat.skip, encInts s.pat.dbl, D.int IntKind.i64 s.next, (D.agg [D.int IntKind.i64 zIss.vol, D.int IntKind.i64 zIss.num, D.int IntKind.i64 zIss.last, D.int IntKind.i64 zIss.day, D.int IntKind.i64 zIss.st, D.int IntKind.i64 zIss.item]).slice (List.map encIss s.iss)])), (1, T.val (D.int IntKind.i64 day)), (2, T.box [C.d (D.int IntKind.i64 s.rcd), C.d (D.int IntKind.i64 s.pat.start), C.d (D.int IntKind.i64 s.pat.every), C.d (D.int IntKind.i64 s.pat.per), C.d (D.int IntKind.i64 s.pat.first), C.d (encInts s.pat.skip), C.d (encInts s.pat.dbl), C.d (D.int IntKind.i64 s.next), C.d ((D.agg [D.int IntKind.i64 zIss.vol, D.int IntKind.i64 zIss.num, D.int IntKind.i64 zIss.last, D.int IntKind.i64 zIss.day, D.int IntKind.i64 zIss.st, D.int IntKind.i64 zIss.item]).slice (List.map encIss s.iss))]), (4, T.box [C.d (D.int IntKind.i64 (0 : Int)), C.d (D.int IntKind.i64 (0 : Int)), C.d (D.int IntKind.i64 (0 : Int)), C.d (D.int IntKind.i64 (0 : Int)), C.d (D.int IntKind.i64 (0 : Int)), C.d ((D.int IntKind.i64 (0 : Int)).slice []), C.d ((D.int IntKind.i64 (0 : Int)).slice []), C.d (D.int IntKind.i64 (0 : Int)), C.d ((D.agg [D.int IntKind.i64 (0 : Int), D.int IntKind.i64 (0 : Int), D.int IntKind.i64 (0 : Int), D.int IntKind.i64 (0 : Int), D.int IntKind.i64 (0 : Int), D.int IntKind.i64 (0 : Int)]).slice [])]), (5, T.val (D.int IntKind.i64 (0 : Int))), (6, T.val (D.int IntKind.i64 (untilR s.pat day))), (14, T.val (D.bool (decide (untilR s.pat day ≤ s.next)))), (17, T.val (D.bool (decide ((128 : Int) < untilR s.pat day)))), (19, T.ptr 2 8), (23, T.val (D.agg [D.int IntKind.i64 s.pat.start, D.int IntKind.i64 s.pat.every, D.int IntKind.i64 s.pat.per, D.int IntKind.i64 s.pat.first, encInts s.pat.skip, encInts s.pat.dbl])), (25, T.val (D.int IntKind.i64 s.next)), (26, T.val (D.int IntKind.i64 (untilR s.pat day))), (27, T.ptr 2 7)] ?_ fun h_4_6 => ?_
        · skip
          refine coreS.step E_ok [1, 9] (by kernel_rfl) (by simp) ?_
          refine anyS.cons rfl ?_ ?_
          · skip
            simp [encSer_eq, encIsss_eq, encIss_eq]
            try simp (disch := omega) only [wrap_i64]
            repeat refine ⟨by first | omega | assumption | (simp only [maxLen]; omega) | (intros; omega) | decide, ?_⟩
            exact contS.mk (by simp [Weak, TW, T.plain, encSer_eq, encIsss_eq, encIss_eq]) h_1_4_6 (by kernel_rfl)
          refine anyS.cons rfl ?_ ?_
          · skip
            simp [encSer_eq, encIsss_eq, encIss_eq]
            try simp (disch := omega) only [wrap_i64]
            repeat refine ⟨by first | omega | assumption | (simp only [maxLen]; omega) | (intros; omega) | decide, ?_⟩
            refine contS.now (f' := 7) (l' := #[true, false, false, true, true, true, true, true, true, true, false, false, false, false, false]) ?_ rfl (by kernel_rfl)
            refine coreS.dry E_ok (by kernel_rfl) 10 rfl rfl (by kernel_rfl) (by kernel_rfl) ?_
            simp [encSer_eq, encIsss_eq, encIss_eq]
            try simp (disch := omega) only [wrap_i64]
            repeat refine ⟨by first | omega | assumption | (simp only [maxLen]; omega) | (intros; omega) | decide, ?_⟩
            exact contS.mk (by simp [Weak, TW, T.plain, encSer_eq, encIsss_eq, encIss_eq]) h_4_6_9 (by kernel_rfl)
          exact anyS.nil
        refine contS.cut 9 #[true, true, false, true, false, true, false, true, true, false, false, false, false, false, false] [(0, T.val (D.agg [D.int IntKind.i64 s.rcd, D.int IntKind.i64 s.pat.start, D.int IntKind.i64 s.pat.every, D.int IntKind.i64 s.pat.per, D.int IntKind.i64 s.pat.first, encInts s.pat.skip, encInts s.pat.dbl, D.int IntKind.i64 s.next, (D.agg [D.int IntKind.i64 zIss.vol, D.int IntKind.i64 zIss.num, D.int IntKind.i64 zIss.last, D.int IntKind.i64 zIss.day, D.int IntKind.i64 zIss.st, D.int IntKind.i64 zIss.item]).slice (List.map encIss s.iss)])), (1, T.val (D.int IntKind.i64 day)), (2, T.box [C.d (D.int IntKind.i64 s.rcd), C.d (D.int IntKind.i64 s.pat.start), C.d (D.int IntKind.i64 s.pat.every), C.d (D.int IntKind.i64 s.pat.per), C.d (D.int IntKind.i64 s.pat.first), C.d (encInts s.pat.skip), C.d (encInts s.pat.dbl), C.d (D.int IntKind.i64 s.next), C.d ((D.agg [D.int IntKind.i64 zIss.vol, D.int IntKind.i64 zIss.num, D.int IntKind.i64 zIss.last, D.int IntKind.i64 zIss.day, D.int IntKind.i64 zIss.st, D.int IntKind.i64 zIss.item]).slice (List.map encIss s.iss))]), (4, T.box [C.d (D.int IntKind.i64 (0 : Int)), C.d (D.int IntKind.i64 (0 : Int)), C.d (D.int IntKind.i64 (0 : Int)), C.d (D.int IntKind.i64 (0 : Int)), C.d (D.int IntKind.i64 (0 : Int)), C.d ((D.int IntKind.i64 (0 : Int)).slice []), C.d ((D.int IntKind.i64 (0 : Int)).slice []), C.d (D.int IntKind.i64 (0 : Int)), C.d ((D.agg [D.int IntKind.i64 (0 : Int), D.int IntKind.i64 (0 : Int), D.int IntKind.i64 (0 : Int), D.int IntKind.i64 (0 : Int), D.int IntKind.i64 (0 : Int), D.int IntKind.i64 (0 : Int)]).slice [])]), (5, T.val (D.int IntKind.i64 (0 : Int))), (6, T.val (D.int IntKind.i64 (untilR s.pat day))), (14, T.val (D.bool (decide (untilR s.pat day ≤ s.next)))), (17, T.val (D.bool (decide ((128 : Int) < untilR s.pat day)))), (20, T.val ((D.agg [D.int IntKind.i64 zIss.vol, D.int IntKind.i64 zIss.num, D.int IntKind.i64 zIss.last, D.int IntKind.i64 zIss.day, D.int IntKind.i64 zIss.st, D.int IntKind.i64 zIss.item]).slice (List.map encIss s.iss))), (22, T.ptr 2 1), (24, T.ptr 2 7), (26, T.val (D.int IntKind.i64 (untilR s.pat day))), (27, T.ptr 2 7)] ?_ fun h_1 => ?_
        · skip
          refine coreS.step E_ok [2, 4, 6, 9] (by kernel_rfl) (by simp) ?_
          refine anyS.cons rfl ?_ ?_
          · skip
            simp [encSer_eq, encIsss_eq, encIss_eq]
            try simp (disch := omega) only [wrap_i64]
            repeat refine ⟨by first | omega | assumption | (simp only [maxLen]; omega) | (intros; omega) | decide, ?_⟩
            refine meet.of (slices_Clone_api_Issue_api_Issue s.iss (by omega)) ?_
            simp [encSer_eq, encIsss_eq, encIss_eq]
            try simp (disch := omega) only [wrap_i64]
            repeat refine ⟨by first | omega | assumption | (simp only [maxLen]; omega) | (intros; omega) | decide, ?_⟩
            exact contS.mk (by simp [Weak, TW, T.plain, encSer_eq, encIsss_eq, encIss_eq]) h_1_2 (by kernel_rfl)
          refine anyS.cons rfl ?_ ?_
          · skip
            simp [encSer_eq, encIsss_eq, encIss_eq]
            try simp (disch := omega) only [wrap_i64]
            repeat refine ⟨by first | omega | assumption | (simp only [maxLen]; omega) | (intros; omega) | decide, ?_⟩
            exact contS.mk (by simp [Weak, TW, T.plain, encSer_eq, encIsss_eq, encIss_eq]) h_1_4 (by kernel_rfl)
          refine anyS.cons rfl ?_ ?_
          · skip
            simp [encSer_eq, encIsss_eq, encIss_eq]
            try simp (disch := omega) only [wrap_i64]
            repeat refine ⟨by first | omega | assumption | (simp only [maxLen]; omega) | (intros; omega) | decide, ?_⟩
            exact contS.mk (by simp [Weak, TW, T.plain, encSer_eq, encIsss_eq, encIss_eq]) h_1_6 (by kernel_rfl)
          refine anyS.cons rfl ?_ ?_
          · skip
            simp [encSer_eq, encIsss_eq, encIss_eq]
            try simp (disch := omega) only [wrap_i64]
            repeat refine ⟨by first | omega | assumption | (simp only [maxLen]; omega) | (intros; omega) | decide, ?_⟩
            refine contS.now (f' := 8) (l' := #[true, true, false, true, false, true, false, true, true, true, false, false, false, false, false]) ?_ rfl (by kernel_rfl)
            refine coreS.dry E_ok (by kernel_rfl) 10 rfl rfl (by kernel_rfl) (by kernel_rfl) ?_
            simp [encSer_eq, encIsss_eq, encIss_eq]
            try simp (disch := omega) only [wrap_i64]
            repeat refine ⟨by first | omega | assumption | (simp only [maxLen]; omega) | (intros; omega) | decide, ?_⟩
            exact contS.mk (by simp [Weak, TW, T.plain, encSer_eq, encIsss_eq, encIss_eq]) h_1_9 (by kernel_rfl)
          exact anyS.nil
        refine contS.cut 9 #[true, false, false, true, true, true, false, true, true, false, false, false, false, false, false] [(0, T.val (D.agg [D.int IntKind.i64 s.rcd, D.int IntKind.i64 s.pat.start, D.int IntKind.i64 s.pat.every, D.int IntKind.i64 s.pat.per, D.int IntKind.i64 s.pat.first, encInts s.pat.skip, encInts s.pat.dbl, D.int IntKind.i64 s.next, (D.agg [D.int IntKind.i64 zIss.vol, D.int IntKind.i64 zIss.num, D.int IntKind.i64 zIss.last, D.int IntKind.i64 zIss.day, D.int IntKind.i64 zIss.st, D.int IntKind.i64 zIss.item]).slice (List.map encIss s.iss)])), (1, T.val (D.int IntKind.i64 day)), (2, T.box [C.d (D.int IntKind.i64 s.rcd), C.d (D.int IntKind.i64 s.pat.start), C.d (D.int IntKind.i64 s.pat.every), C.d (D.int IntKind.i64 s.pat.per), C.d (D.int IntKind.i64 s.pat.first), C.d (encInts s.pat.skip), C.d (encInts s.pat.dbl), C.d (D.int IntKind.i64 s.next), C.d ((D.agg [D.int IntKind.i64 zIss.vol, D.int IntKind.i64 zIss.num, D.int IntKind.i64 zIss.last, D.int IntKind.i64 zIss.day, D.int IntKind.i64 zIss.st, D.int IntKind.i64 zIss.item]).slice (List.map encIss s.iss))]), (4, T.box [C.d (D.int IntKind.i64 (0 : Int)), C.d (D.int IntKind.i64 (0 : Int)), C.d (D.int IntKind.i64 (0 : Int)), C.d (D.int IntKind.i64 (0 : Int)), C.d (D.int IntKind.i64 (0 : Int)), C.d ((D.int IntKind.i64 (0 : Int)).slice []), C.d ((D.int IntKind.i64 (0 : Int)).slice []), C.d (D.int IntKind.i64 (0 : Int)), C.d ((D.agg [D.int IntKind.i64 (0 : Int), D.int IntKind.i64 (0 : Int), D.int IntKind.i64 (0 : Int), D.int IntKind.i64 (0 : Int), D.int IntKind.i64 (0 : Int), D.int IntKind.i64 (0 : Int)]).slice [])]), (5, T.val (D.int IntKind.i64 (0 : Int))), (6, T.val (D.int IntKind.i64 (untilR s.pat day))), (14, T.val (D.bool (decide (untilR s.pat day ≤ s.next)))), (17, T.val (D.bool (decide ((128 : Int) < untilR s.pat day)))), (19, T.ptr 2 8), (23, T.val (D.agg [D.int IntKind.i64 s.pat.start, D.int IntKind.i64 s.pat.every, D.int IntKind.i64 s.pat.per, D.int IntKind.i64 s.pat.first, encInts s.pat.skip, encInts s.pat.dbl])), (24, T.ptr 2 7), (26, T.val (D.int IntKind.i64 (untilR s.pat day))), (27, T.ptr 2 7)] ?_ fun h_4 => ?_
        · skip
          refine coreS.step E_ok [1, 6, 9] (by kernel_rfl) (by simp) ?_
          refine anyS.cons rfl ?_ ?_
          · skip
            simp [encSer_eq, encIsss_eq, encIss_eq]
            try simp (disch := omega) only [wrap_i64]
            repeat refine ⟨by first | omega | assumption | (simp only [maxLen]; omega) | (intros; omega) | decide, ?_⟩
            exact contS.mk (by simp [Weak, TW, T.plain, encSer_eq, encIsss_eq, encIss_eq]) h_1_4 (by kernel_rfl)
          refine anyS.cons rfl ?_ ?_
          · skip
            simp [encSer_eq, encIsss_eq, encIss_eq]
            try simp (disch := omega) only [wrap_i64]
            repeat refine ⟨by first | omega | assumption | (simp only [maxLen]; omega) | (intros; omega) | decide, ?_⟩
            exact contS.mk (by simp [Weak, TW, T.plain, encSer_eq, encIsss_eq, encIss_eq]) h_4_6 (by kernel_rfl)
          refine anyS.cons rfl ?_ ?_
          · skip
            simp [encSer_eq, encIsss_eq, encIss_eq]
            try simp (disch := omega) only [wrap_i64]
            repeat refine ⟨by first | omega | assumption | (simp only [maxLen]; omega) | (intros; omega) | decide, ?_⟩
            refine contS.now (f' := 8) (l' := #[true, false, false, true, true, true, false, true, true, true, false, false, false, false, false]) ?_ rfl (by kernel_rfl)
            refine coreS.dry E_ok (by kernel_rfl) 10 rfl rfl (by kernel_rfl) (by kernel_rfl) ?_
            simp [encSer_eq, encIsss_eq, encIss_eq]
            try simp (disch := omega) only [wrap_i64]
            repeat refine ⟨by first | omega | assumption | (simp only [maxLen]; omega) | (intros; omega) | decide, ?_⟩
            exact contS.mk (by simp [Weak, TW, T.plain, encSer_eq, encIsss_eq, encIss_eq]) h_4_9 (by kernel_rfl)
          exact anyS.nil
        refine contS.cut 9 #[true, false, false, true, false, true, true, true, true, false, false, false, false, false, false] [(0, T.val (D.agg [D.int IntKind.i64 s.rcd, D.int IntKind.i64 s.pat.start, D.int IntKind.i64 s.pat.every, D.int IntKind.i64 s.pat.per, D.int IntKind.i64 s.pat.first, encInts s.pat.skip, encInts s.pat.dbl, D.int IntKind.i64 s.next, (D.agg [D.int IntKind.i64 zIss.vol, D.int IntKind.i64 zIss.num, D.int IntKind.i64 zIss.last, D.int IntKind.i64 zIss.day, D.int IntKind.i64 zIss.st, D.int IntKind.i64 zIss.item]).slice (List.map encIss s.iss)])), (1, T.val (D.int IntKind.i64 day)), (2, T.box [C.d (D.int IntKind.i64 s.rcd), C.d (D.int IntKind.i64 s.pat.start), C.d (D.int IntKind.i64 s.pat.every), C.d (D.int IntKind.i64 s.pat.per), C.d (D.int IntKind.i64 s.pat.first), C.d (encInts s.pat.skip), C.d (encInts s.pat.dbl), C.d (D.int IntKind.i64 s.next), C.d ((D.agg [D.int IntKind.i64 zIss.vol, D.int IntKind.i64 zIss.num, D.int IntKind.i64 zIss.last, D.int IntKind.i64 zIss.day, D.int IntKind.i64 zIss.st, D.int IntKind.i64 zIss.item]).slice (List.map encIss s.iss))]), (4, T.box [C.d (D.int IntKind.i64 (0 : Int)), C.d (D.int IntKind.i64 (0 : Int)), C.d (D.int IntKind.i64 (0 : Int)), C.d (D.int IntKind.i64 (0 : Int)), C.d (D.int IntKind.i64 (0 : Int)), C.d ((D.int IntKind.i64 (0 : Int)).slice []), C.d ((D.int IntKind.i64 (0 : Int)).slice []), C.d (D.int IntKind.i64 (0 : Int)), C.d ((D.agg [D.int IntKind.i64 (0 : Int), D.int IntKind.i64 (0 : Int), D.int IntKind.i64 (0 : Int), D.int IntKind.i64 (0 : Int), D.int IntKind.i64 (0 : Int), D.int IntKind.i64 (0 : Int)]).slice [])]), (5, T.val (D.int IntKind.i64 (0 : Int))), (6, T.val (D.int IntKind.i64 (untilR s.pat day))), (14, T.val (D.bool (decide (untilR s.pat day ≤ s.next)))), (17, T.val (D.bool (decide ((128 : Int) < untilR s.pat day)))), (19, T.ptr 2 8), (22, T.ptr 2 1), (25, T.val (D.int IntKind.i64 s.next)), (26, T.val (D.int IntKind.i64 (untilR s.pat day))), (27, T.ptr 2 7)] ?_ fun h_6 => ?_
        · skip
          refine coreS.step E_ok [1, 4, 9] (by kernel_rfl) (by simp) ?_
          refine anyS.cons rfl ?_ ?_
          · skip
            simp [encSer_eq, encIsss_eq, encIss_eq]
            try simp (disch := omega) only [wrap_i64]
            repeat refine ⟨by first | omega | assumption | (simp only [maxLen]; omega) | (intros; omega) | decide, ?_⟩
            exact contS.mk (by simp [Weak, TW, T.plain, encSer_eq, encIsss_eq, encIss_eq]) h_1_6 (by kernel_rfl)
          refine anyS.cons rfl ?_ ?_
          · skip
            simp [encSer_eq, encIsss_eq, encIss_eq]
            try simp (disch := omega) only [wrap_i64]
            repeat refine ⟨by first | omega | assumption | (simp only [maxLen]; omega) | (intros; omega) | decide, ?_⟩
            exact contS.mk (by simp [Weak, TW, T.plain, encSer_eq, encIsss_eq, encIss_eq]) h_4_6 (by kernel_rfl)
          refine anyS.cons rfl ?_ ?_
          · skip
            simp [encSer_eq, encIsss_eq, encIss_eq]
            try simp (disch := omega) only [wrap_i64]
            repeat refine ⟨by first | omega | assumption | (simp only [maxLen]; omega) | (intros; omega) | decide, ?_⟩
            refine contS.now (f' := 8) (l' := #[true, false, false, true, false, true, true, true, true, true, false, false, false, false, false]) ?_ rfl (by kernel_rfl)
            refine coreS.dry E_ok (by kernel_rfl) 10 rfl rfl (by kernel_rfl) (by kernel_rfl) ?_
            simp [encSer_eq, encIsss_eq, encIss_eq]
            try simp (disch := omega) only [wrap_i64]
            repeat refine ⟨by first | omega | assumption | (simp only [maxLen]; omega) | (intros; omega) | decide, ?_⟩
            exact contS.mk (by simp [Weak, TW, T.plain, encSer_eq, encIsss_eq, encIss_eq]) h_6_9 (by kernel_rfl)
          exact anyS.nil
        refine contS.cut 10 #[true, false, false, true, false, true, false, true, true, false, false, false, false, false, false] [(0, T.val (D.agg [D.int IntKind.i64 s.rcd, D.int IntKind.i64 s.pat.start, D.int IntKind.i64 s.pat.every, D.int IntKind.i64 s.pat.per, D.int IntKind.i64 s.pat.first, encInts s.pat.skip, encInts s.pat.dbl, D.int IntKind.i64 s.next, (D.agg [D.int IntKind.i64 zIss.vol, D.int IntKind.i64 zIss.num, D.int IntKind.i64 zIss.last, D.int IntKind.i64 zIss.day, D.int IntKind.i64 zIss.st, D.int IntKind.i64 zIss.item]).slice (List.map encIss s.iss)])), (1, T.val (D.int IntKind.i64 day)), (2, T.box [C.d (D.int IntKind.i64 s.rcd), C.d (D.int IntKind.i64 s.pat.start), C.d (D.int IntKind.i64 s.pat.every), C.d (D.int IntKind.i64 s.pat.per), C.d (D.int IntKind.i64 s.pat.first), C.d (encInts s.pat.skip), C.d (encInts s.pat.dbl), C.d (D.int IntKind.i64 s.next), C.d ((D.agg [D.int IntKind.i64 zIss.vol, D.int IntKind.i64 zIss.num, D.int IntKind.i64 zIss.last, D.int IntKind.i64 zIss.day, D.int IntKind.i64 zIss.st, D.int IntKind.i64 zIss.item]).slice (List.map encIss s.iss))]), (4, T.box [C.d (D.int IntKind.i64 (0 : Int)), C.d (D.int IntKind.i64 (0 : Int)), C.d (D.int IntKind.i64 (0 : Int)), C.d (D.int IntKind.i64 (0 : Int)), C.d (D.int IntKind.i64 (0 : Int)), C.d ((D.int IntKind.i64 (0 : Int)).slice []), C.d ((D.int IntKind.i64 (0 : Int)).slice []), C.d (D.int IntKind.i64 (0 : Int)), C.d ((D.agg [D.int IntKind.i64 (0 : Int), D.int IntKind.i64 (0 : Int), D.int IntKind.i64 (0 : Int), D.int IntKind.i64 (0 : Int), D.int IntKind.i64 (0 : Int), D.int IntKind.i64 (0 : Int)]).slice [])]), (5, T.val (D.int IntKind.i64 (0 : Int))), (6, T.val (D.int IntKind.i64 (untilR s.pat day))), (14, T.val (D.bool (decide (untilR s.pat day ≤ s.next)))), (17, T.val (D.bool (decide ((128 : Int) < untilR s.pat day)))), (19, T.ptr 2 8), (22, T.ptr 2 1), (24, T.ptr 2 7), (26, T.val (D.int IntKind.i64 (untilR s.pat day))), (27, T.ptr 2 7)] ?_ fun h_ => ?_
        · skip
          refine coreS.step E_ok [1, 4, 6, 9] (by kernel_rfl) (by simp) ?_
          refine anyS.cons rfl ?_ ?_
          · skip
            simp [encSer_eq, encIsss_eq, encIss_eq]
            try simp (disch := omega) only [wrap_i64]
            repeat refine ⟨by first | omega | assumption | (simp only [maxLen]; omega) | (intros; omega) | decide, ?_⟩
            exact contS.mk (by simp [Weak, TW, T.plain, encSer_eq, encIsss_eq, encIss_eq]) h_1 (by kernel_rfl)
          refine anyS.cons rfl ?_ ?_
          · skip
            simp [encSer_eq, encIsss_eq, encIss_eq]
            try simp (disch := omega) only [wrap_i64]
            repeat refine ⟨by first | omega | assumption | (simp only [maxLen]; omega) | (intros; omega) | decide, ?_⟩
            exact contS.mk (by simp [Weak, TW, T.plain, encSer_eq, encIsss_eq, encIss_eq]) h_4 (by kernel_rfl)
          refine anyS.cons rfl ?_ ?_
          · skip
            simp [encSer_eq, encIsss_eq, encIss_eq]
            try simp (disch := omega) only [wrap_i64]
            repeat refine ⟨by first | omega | assumption | (simp only [maxLen]; omega) | (intros; omega) | decide, ?_⟩
            exact contS.mk (by simp [Weak, TW, T.plain, encSer_eq, encIsss_eq, encIss_eq]) h_6 (by kernel_rfl)
          refine anyS.cons rfl ?_ ?_
          · skip
            simp [encSer_eq, encIsss_eq, encIss_eq]
            try simp (disch := omega) only [wrap_i64]
            repeat refine ⟨by first | omega | assumption | (simp only [maxLen]; omega) | (intros; omega) | decide, ?_⟩
            refine contS.now (f' := 9) (l' := #[true, false, false, true, false, true, false, true, true, true, false, false, false, false, false]) ?_ rfl (by kernel_rfl)
            refine coreS.dry E_ok (by kernel_rfl) 10 rfl rfl (by kernel_rfl) (by kernel_rfl) ?_
            simp [encSer_eq, encIsss_eq, encIss_eq]
            try simp (disch := omega) only [wrap_i64]
            repeat refine ⟨by first | omega | assumption | (simp only [maxLen]; omega) | (intros; omega) | decide, ?_⟩
            exact contS.mk (by simp [Weak, TW, T.plain, encSer_eq, encIsss_eq, encIss_eq]) h_9 (by kernel_rfl)
          exact anyS.nil
        refine contS.now (f' := 15) (l' := #[false, false, false, false, false, false, false, false, false, false, false, false, false, false, false]) ?_ rfl (by kernel_rfl)
        refine coreS.dry E_ok (by kernel_rfl) 0 rfl rfl (by kernel_rfl) (by kernel_rfl) ?_
        simp [encSer_eq, encIsss_eq, encIss_eq]
        try simp (disch := omega) only [wrap_i64]
        repeat refine ⟨by first | omega | assumption | (simp only [maxLen]; omega) | (intros; omega) | decide, ?_⟩
        refine contS.now (f' := 14) (l' := #[true, false, false, false, false, false, false, false, false, false, false, false, false, false, false]) ?_ rfl (by kernel_rfl)
        refine coreS.dry E_ok (by kernel_rfl) 3 rfl rfl (by kernel_rfl) (by kernel_rfl) ?_
        simp [encSer_eq, encIsss_eq, encIss_eq]
        try simp (disch := omega) only [wrap_i64]
        repeat refine ⟨by first | omega | assumption | (simp only [maxLen]; omega) | (intros; omega) | decide, ?_⟩
        refine contS.now (f' := 13) (l' := #[true, false, false, true, false, false, false, false, false, false, false, false, false, false, false]) ?_ rfl (by kernel_rfl)
        refine coreS.dry E_ok (by kernel_rfl) 5 rfl rfl (by kernel_rfl) (by kernel_rfl) ?_
        simp [encSer_eq, encIsss_eq, encIss_eq]
        try simp (disch := omega) only [wrap_i64]
        repeat refine ⟨by first | omega | assumption | (simp only [maxLen]; omega) | (intros; omega) | decide, ?_⟩
        refine contS.now (f' := 12) (l' := #[true, false, false, true, false, true, false, false, false, false, false, false, false, false, false]) ?_ rfl (by kernel_rfl)
        refine coreS.dry E_ok (by kernel_rfl) 7 rfl rfl (by kernel_rfl) (by kernel_rfl) ?_
        simp [encSer_eq, encIsss_eq, encIss_eq]
        try simp (disch := omega) only [wrap_i64]
        repeat refine ⟨by first | omega | assumption | (simp only [maxLen]; omega) | (intros; omega) | decide, ?_⟩
        refine contS.now (f' := 11) (l' := #[true, false, false, true, false, true, false, true, false, false, false, false, false, false, false]) ?_ rfl (by kernel_rfl)
        refine coreS.dry E_ok (by kernel_rfl) 8 rfl rfl (by kernel_rfl) (by kernel_rfl) ?_
        simp [encSer_eq, encIsss_eq, encIss_eq]
        try simp (disch := omega) only [wrap_i64]
        repeat refine ⟨by first | omega | assumption | (simp only [maxLen]; omega) | (intros; omega) | decide, ?_⟩
        exact contS.mk (by simp [Weak, TW, T.plain, encSer_eq, encIsss_eq, encIss_eq]) h_ (by kernel_rfl)
      refine hK _ ?_
      clear hK K
      -- region 7
      refine AWp.rseq E_ok [0, 1, 2, 4, 5, 6, 14, 17] fun K hK => ?_
      simp [encSer_eq, encIsss_eq, encIss_eq]
      try simp (disch := omega) only [wrap_i64]
      repeat refine ⟨by first | omega | assumption | (simp only [maxLen]; omega) | (intros; omega) | decide, ?_⟩
      refine hK _ ?_
      clear hK K
      -- region 8
      refine AWp.rseq E_ok [0, 1, 2, 4, 5, 6, 14, 17] fun K hK => ?_
      simp [encSer_eq, encIsss_eq, encIss_eq]
      try simp (disch := omega) only [wrap_i64]
      repeat refine ⟨by first | omega | assumption | (simp only [maxLen]; omega) | (intros; omega) | decide, ?_⟩
      refine hK _ ?_
      clear hK K
      refine AWp.ret ?_
      repeat first | refine thenN ?_ | refine thenX ?_ | refine thenR ?_ | refine blockN ?_ | refine blockR ?_ | refine blockX ?_ | refine blockM rfl ?_
      simp [RetOk, RV, RVs, hb, zSer, zPat, encSer_eq, encInts_eq, encIsss_eq, encIss_eq, zIss]
end Go.Proofs.Ytceapemkefaicaa

set_option maxRecDepth 100000
set_option linter.unusedSimpArgs false
set_option linter.unusedVariables false
namespace Go.Proofs.Ytceapemkefaicaa
open Go Ab Pl
theorem slices_IndexFunc_api_Issue_api_Issue (l : List Iss) (f : Nat) (caps : List D) (p : Iss → Bool) (hp : ∀ n, ACalls E.P f (encIss n :: caps) (.d (.bool (p n)))) : ACalls E.P 73 [encIsss l, .fn f caps] (.d (.int .i64 (idxI p 0 l))) := by
  refine ACalls.intro E_ok Try.func73 rfl rfl Try.ntmps73 Try.results73 (Nat.le_of_ble_eq_true rfl) fun hok base S0 w0 => ?_
  have hl : l.length ≤ 9223372036854775807 := by have := (Ok_slice (hok (encIsss l) (by simp))).1; simpa using this
  -- region 0
  refine AWp.rseq E_ok [0, 1, 4, 5, 7, 8, 9, 16] fun K hK => ?_
  simp [encIsss_eq, encIss_eq]
  repeat refine ⟨by first | omega | assumption | (simp only [maxLen]; omega) | (intros; omega) | decide, ?_⟩
  refine hK _ ?_
  clear hK K
  refine AWp.seq ?_
  -- region 1
  refine AWp.rseq E_ok [0, 1, 4, 5, 7, 8, 9, 16] fun K hK => ?_
  simp [encIsss_eq, encIss_eq]
  repeat refine ⟨by first | omega | assumption | (simp only [maxLen]; omega) | (intros; omega) | decide, ?_⟩
  refine hK _ ?_
  clear hK K
  refine AWp.block ?_
  refine AWp.range (l := l) (F := idxI p) (tot := idxI p 0 l) (fun k y => match y with | i => i = (k : Int)) (fun k y => match y with | i => [(0, T.val ((encIss zIss).slice (List.map encIss l))), (1, T.val (D.fn f caps)), (7, T.val (D.int IntKind.i64 ↑l.length)), (8, T.val (.int .i64 k))]) (0) ?_ rfl ?_ ?_
  · simp [Weak, TW, encIsss_eq, encIss_eq]
  · first | exact trivial | (simp; omega) | simp
  rintro k i hk hs hi
  try simp only at hi
  -- region 2
  refine AWp.rseq E_ok [0, 1, 4, 5, 7, 8, 9, 16] fun K hK => ?_
  simp [encIsss_eq, encIss_eq]
  repeat refine ⟨by first | omega | assumption | (simp only [maxLen]; omega) | (intros; omega) | decide, ?_⟩
  refine hK _ ?_
  clear hK K
  refine AWp.seq ?_
  refine AWp.cond rfl (fun h9 => ?_) (fun h9 => ?_)
  · try simp at h9
    obtain ⟨x, hx, hxx, hd⟩ := at_indexG (l := l) h9
    rw [hd] at hs
    refine AWp.skip ?_
    repeat first | refine thenN ?_ | refine thenX ?_ | refine thenR ?_ | refine blockN ?_ | refine blockR ?_ | refine blockX ?_ | refine blockM rfl ?_
    refine AWp.seq ?_
    refine AWp.block ?_
    -- region 3
    refine AWp.rseq E_ok [0, 1, 4, 5, 7, 8, 9, 16] fun K hK => ?_
    simp [encIsss_eq, encIss_eq, h9, hx, hxx]
    repeat refine ⟨by first | omega | assumption | (simp only [maxLen]; omega) | (intros; omega) | decide, ?_⟩
    refine hK _ ?_
    clear hK K
    -- region 4
    refine AWp.rseq E_ok [0, 1, 4, 5, 7, 8, 9, 16] fun K hK => ?_
    simp [encIsss_eq, encIss_eq, h9, hx, hxx]
    repeat refine ⟨by first | omega | assumption | (simp only [maxLen]; omega) | (intros; omega) | decide, ?_⟩
    refine meet.of (hp x) ?_
    simp [encIsss_eq, encIss_eq, h9, hx, hxx]
    repeat refine ⟨by first | omega | assumption | (simp only [maxLen]; omega) | (intros; omega) | decide, ?_⟩
    refine hK _ ?_
    clear hK K
    refine AWp.cond rfl (fun h16 => ?_) (fun h16 => ?_)
    · try simp at h16
      -- region 5
      refine AWp.rseq E_ok [0, 1, 4, 5, 7, 8, 9, 16] fun K hK => ?_
      simp [encIsss_eq, encIss_eq, h9, hx, hxx, h16]
      repeat refine ⟨by first | omega | assumption | (simp only [maxLen]; omega) | (intros; omega) | decide, ?_⟩
      refine hK _ ?_
      clear hK K
      refine AWp.ret ?_
      repeat first | refine thenN ?_ | refine thenX ?_ | refine thenR ?_ | refine blockN ?_ | refine blockR ?_ | refine blockX ?_ | refine blockM rfl ?_
      simp [idxI, h16] at hs
      first | (simp [RetOk, RV, ← hs]; done) | (simp [RetOk, RV, ← hs, hi])
    · try simp at h16
      refine AWp.skip ?_
      repeat first | refine thenN ?_ | refine thenX ?_ | refine thenR ?_ | refine blockN ?_ | refine blockR ?_ | refine blockX ?_ | refine blockM rfl ?_
      -- region 6
      refine AWp.rend E_ok [0, 1, 4, 5, 7, 8, 9, 16] fun K hK => ?_
      simp [encIsss_eq, encIss_eq, h9, hx, hxx, h16]
      repeat refine ⟨by first | omega | assumption | (simp only [maxLen]; omega) | (intros; omega) | decide, ?_⟩
      refine hK _ ?_
      clear hK K
      repeat first | refine thenN ?_ | refine thenX ?_ | refine thenR ?_ | refine blockN ?_ | refine blockR ?_ | refine blockX ?_ | refine blockM rfl ?_
      have hw : IntKind.i64.wrap ((k : Int) + 1) = (k : Int) + 1 := by rw [wrap_i64] <;> omega
      simp [idxI, h16] at hs
      refine ⟨_, h9, hs, ?_, ?_⟩
      · first | exact trivial | (simp; omega) | simp
      · simp [Weak, TW, hw, encIsss_eq, encIss_eq]
  · try simp at h9
    obtain rfl : k = l.length := by omega
    simp [idxI] at hs
    refine AWp.exit ?_
    repeat first | refine thenN ?_ | refine thenX ?_ | refine thenR ?_ | refine blockN ?_ | refine blockR ?_ | refine blockX ?_ | refine blockM rfl ?_
    -- region 7
    refine AWp.rseq E_ok [0, 1, 4, 5, 7, 8, 9, 16] fun K hK => ?_
    simp [encIsss_eq, encIss_eq, h9]
    repeat refine ⟨by first | omega | assumption | (simp only [maxLen]; omega) | (intros; omega) | decide, ?_⟩
    refine hK _ ?_
    clear hK K
    refine AWp.ret ?_
    repeat first | refine thenN ?_ | refine thenX ?_ | refine thenR ?_ | refine blockN ?_ | refine blockR ?_ | refine blockX ?_ | refine blockM rfl ?_
    first | (simp [RetOk, RV, ← hs]; done) | (simp [RetOk, RV, ← hs, hi])
end Go.Proofs.Ytceapemkefaicaa

set_option maxRecDepth 100000
set_option linter.unusedSimpArgs false
set_option linter.unusedVariables false
namespace Go.Proofs.Ytceapemkefaicaa
open Go Ab Pl
theorem serial_find_1 (x : Iss) (v n : Int) : ACalls E.P 74 [encIss x, .ref [.int .i64 v], .ref [.int .i64 n]] (.d (.bool (decide (Numd v n x)))) := by
  refine ACalls.intro E_ok Try.func74 rfl rfl Try.ntmps74 Try.results74 (Nat.le_of_ble_eq_true rfl) fun hok base S0 w0 => ?_
  -- region 0
  refine AWp.rseq E_ok [0, 1, 2, 3, 4] fun K hK => ?_
  simp [encIss_eq]
  repeat refine ⟨by first | omega | assumption | (simp only [maxLen]; omega) | (intros; omega) | decide, ?_⟩
  refine hK _ ?_
  clear hK K
  -- region 1
  refine AWp.rseq E_ok [0, 1, 2, 3, 4] fun K hK => ?_
  simp [encIss_eq]
  repeat refine ⟨by first | omega | assumption | (simp only [maxLen]; omega) | (intros; omega) | decide, ?_⟩
  refine hK _ ?_
  clear hK K
  refine AWp.ret ?_
  repeat first | refine thenN ?_ | refine thenX ?_ | refine thenR ?_ | refine blockN ?_ | refine blockR ?_ | refine blockX ?_ | refine blockM rfl ?_
  simp [RetOk, RV]; rw [Bool.eq_iff_iff, decide_eq_true_iff]; simp [Numd]
end Go.Proofs.Ytceapemkefaicaa

set_option maxRecDepth 100000
set_option linter.unusedSimpArgs false
set_option linter.unusedVariables false
namespace Go.Proofs.Ytceapemkefaicaa
open Go Ab Pl
theorem serial_find (s : Ser) (v n : Int) : ACalls E.P 51 [encSer s, .int .i64 v, .int .i64 n] (.d (.int .i64 (fndR s.iss v n))) := by
  refine ACalls.intro E_ok Try.func51 rfl rfl Try.ntmps51 Try.results51 (Nat.le_of_ble_eq_true rfl) fun hok base S0 w0 => ?_
  -- region 0
  refine AWp.rseq E_ok [0, 1, 2, 3, 4, 5, 6] fun K hK => ?_
  simp [encSer_eq, encIsss_eq]
  repeat refine ⟨by first | omega | assumption | (simp only [maxLen]; omega) | (intros; omega) | decide, ?_⟩
  refine hK _ ?_
  clear hK K
  -- region 1
  refine AWp.rseq E_ok [0, 1, 2, 3, 4, 5, 6] fun K hK => ?_
  simp [encSer_eq, encIsss_eq]
  repeat refine ⟨by first | omega | assumption | (simp only [maxLen]; omega) | (intros; omega) | decide, ?_⟩
  refine meet.of (slices_IndexFunc_api_Issue_api_Issue s.iss _ _ (fun x => decide (Numd v n x)) (fun x => serial_find_1 x v n)) ?_
  simp [encSer_eq, encIsss_eq]
  repeat refine ⟨by first | omega | assumption | (simp only [maxLen]; omega) | (intros; omega) | decide, ?_⟩
  refine hK _ ?_
  clear hK K
  refine AWp.ret ?_
  repeat first | refine thenN ?_ | refine thenX ?_ | refine thenR ?_ | refine blockN ?_ | refine blockR ?_ | refine blockX ?_ | refine blockM rfl ?_
  simp [RetOk, RV, idxI_fnd, fndR]
end Go.Proofs.Ytceapemkefaicaa

set_option maxRecDepth 100000
set_option linter.unusedSimpArgs false
set_option linter.unusedVariables false
namespace Go.Proofs.Ytceapemkefaicaa
open Go Ab Pl
theorem serial_has (x : Iss) : ACalls E.P 44 [encIss x] (.d (.bool (hasI x))) := by
  refine ACalls.intro E_ok Try.func44 rfl rfl Try.ntmps44 Try.results44 (Nat.le_of_ble_eq_true rfl) fun hok base S0 w0 => ?_
  -- region 0
  refine AWp.rseq E_ok [0, 1, 2] fun K hK => ?_
  simp [encIss_eq]
  repeat refine ⟨by first | omega | assumption | (simp only [maxLen]; omega) | (intros; omega) | decide, ?_⟩
  refine hK _ ?_
  clear hK K
  -- region 1
  refine AWp.rseq E_ok [0, 1, 2] fun K hK => ?_
  simp [encIss_eq]
  repeat refine ⟨by first | omega | assumption | (simp only [maxLen]; omega) | (intros; omega) | decide, ?_⟩
  refine hK _ ?_
  clear hK K
  refine AWp.ret ?_
  repeat first | refine thenN ?_ | refine thenX ?_ | refine thenR ?_ | refine blockN ?_ | refine blockR ?_ | refine blockX ?_ | refine blockM rfl ?_
  simp [RetOk, RV, hasI, Bool.decide_or]; rfl
end Go.Proofs.Ytceapemkefaicaa

set_option maxRecDepth 100000
set_option linter.unusedSimpArgs false
set_option linter.unusedVariables false
namespace Go.Proofs.Ytceapemkefaicaa
open Go Ab Pl
theorem slices_ContainsFunc_api_Issue_api_Issue (l : List Iss) (f : Nat) (caps : List D) (p : Iss → Bool) (hp : ∀ n, ACalls E.P f (encIss n :: caps) (.d (.bool (p n)))) : ACalls E.P 75 [encIsss l, .fn f caps] (.d (.bool (l.any p))) := by
  refine ACalls.intro E_ok Try.func75 rfl rfl Try.ntmps75 Try.results75 (Nat.le_of_ble_eq_true rfl) fun hok base S0 w0 => ?_
  -- region 0
  refine AWp.rseq E_ok [0, 1, 4] fun K hK => ?_
  simp [encIsss_eq]
  repeat refine ⟨by first | omega | assumption | (simp only [maxLen]; omega) | (intros; omega) | decide, ?_⟩
  refine hK _ ?_
  clear hK K
  -- region 1
  refine AWp.rseq E_ok [0, 1, 4] fun K hK => ?_
  simp [encIsss_eq]
  repeat refine ⟨by first | omega | assumption | (simp only [maxLen]; omega) | (intros; omega) | decide, ?_⟩
  refine meet.of (slices_IndexFunc_api_Issue_api_Issue _ _ _ _ hp) ?_
  simp [encIsss_eq]
  repeat refine ⟨by first | omega | assumption | (simp only [maxLen]; omega) | (intros; omega) | decide, ?_⟩
  refine hK _ ?_
  clear hK K
  refine AWp.ret ?_
  repeat first | refine thenN ?_ | refine thenX ?_ | refine thenR ?_ | refine blockN ?_ | refine blockR ?_ | refine blockX ?_ | refine blockM rfl ?_
  simp [RetOk, RV, idxI_any]
end Go.Proofs.Ytceapemkefaicaa

set_option maxRecDepth 100000
set_option linter.unusedSimpArgs false
set_option linter.unusedVariables false
namespace Go.Proofs.Ytceapemkefaicaa
open Go Ab Pl
theorem serial_checkItem_1 (x : Iss) (it : Int) : ACalls E.P 76 [encIss x, .ref [.int .i64 it]] (.d (.bool (decide (x.item = it)))) := by
  refine ACalls.intro E_ok Try.func76 rfl rfl Try.ntmps76 Try.results76 (Nat.le_of_ble_eq_true rfl) fun hok base S0 w0 => ?_
  -- region 0
  refine AWp.rseq E_ok [0, 1, 2, 3] fun K hK => ?_
  simp [encIss_eq]
  repeat refine ⟨by first | omega | assumption | (simp only [maxLen]; omega) | (intros; omega) | decide, ?_⟩
  refine hK _ ?_
  clear hK K
  -- region 1
  refine AWp.rseq E_ok [0, 1, 2, 3] fun K hK => ?_
  simp [encIss_eq]
  repeat refine ⟨by first | omega | assumption | (simp only [maxLen]; omega) | (intros; omega) | decide, ?_⟩
  refine hK _ ?_
  clear hK K
  refine AWp.ret ?_
  repeat first | refine thenN ?_ | refine thenX ?_ | refine thenR ?_ | refine blockN ?_ | refine blockR ?_ | refine blockX ?_ | refine blockM rfl ?_
  simp [RetOk, RV]; rfl
end Go.Proofs.Ytceapemkefaicaa

set_option maxRecDepth 100000
set_option linter.unusedSimpArgs false
set_option linter.unusedVariables false
namespace Go.Proofs.Ytceapemkefaicaa
open Go Ab Pl
theorem serial_checkItem (s : Ser) (it : Int) : ACalls E.P 52 [encSer s, .int .i64 it] (.d (.int .i64 (itemR s.iss it))) := by
  refine ACalls.intro E_ok Try.func52 rfl rfl Try.ntmps52 Try.results52 (Nat.le_of_ble_eq_true rfl) fun hok base S0 w0 => ?_
  -- region 0
  refine AWp.rseq E_ok [0, 1, 2, 3, 4, 7, 11] fun K hK => ?_
  simp [encSer_eq, encIsss_eq]
  repeat refine ⟨by first | omega | assumption | (simp only [maxLen]; omega) | (intros; omega) | decide, ?_⟩
  refine hK _ ?_
  clear hK K
  refine AWp.seq ?_
  -- region 1
  refine AWp.rseq E_ok [0, 1, 2, 3, 4, 7, 11] fun K hK => ?_
  simp [encSer_eq, encIsss_eq]
  repeat refine ⟨by first | omega | assumption | (simp only [maxLen]; omega) | (intros; omega) | decide, ?_⟩
  refine meet.of (serial_within _ _ _) ?_
  simp [encSer_eq, encIsss_eq]
  repeat refine ⟨by first | omega | assumption | (simp only [maxLen]; omega) | (intros; omega) | decide, ?_⟩
  refine hK _ ?_
  clear hK K
  refine AWp.cond rfl (fun h7 => ?_) (fun h7 => ?_)
  · try simp at h7
    have hb : itemR s.iss it = 2 := if_pos (by omega)
    -- region 2
    refine AWp.rseq E_ok [0, 1, 2, 3, 4, 7, 11] fun K hK => ?_
    simp [encSer_eq, encIsss_eq]
    repeat refine ⟨by first | omega | assumption | (simp only [maxLen]; omega) | (intros; omega) | decide, ?_⟩
    refine hK _ ?_
    clear hK K
    refine AWp.ret ?_
    repeat first | refine thenN ?_ | refine thenX ?_ | refine thenR ?_ | refine blockN ?_ | refine blockR ?_ | refine blockX ?_ | refine blockM rfl ?_
    simp [RetOk, RV, hb]
  · try simp at h7
    refine AWp.skip ?_
    repeat first | refine thenN ?_ | refine thenX ?_ | refine thenR ?_ | refine blockN ?_ | refine blockR ?_ | refine blockX ?_ | refine blockM rfl ?_
    refine AWp.seq ?_
    -- region 3
    refine AWp.rseq E_ok [0, 1, 2, 3, 4, 7, 11] fun K hK => ?_
    simp [encSer_eq, encIsss_eq]
    repeat refine ⟨by first | omega | assumption | (simp only [maxLen]; omega) | (intros; omega) | decide, ?_⟩
    refine meet.of (slices_ContainsFunc_api_Issue_api_Issue s.iss _ _ (fun x => decide (x.item = it)) (fun x => serial_checkItem_1 x it)) ?_
    simp [encSer_eq, encIsss_eq]
    repeat refine ⟨by first | omega | assumption | (simp only [maxLen]; omega) | (intros; omega) | decide, ?_⟩
    refine hK _ ?_
    clear hK K
    refine AWp.cond rfl (fun h11 => ?_) (fun h11 => ?_)
    · try simp at h11
      have hb : itemR s.iss it = 7 := by unfold itemR; rw [if_neg (by omega), if_pos (by unfold hasIt; simpa using h11)]
      -- region 4
      refine AWp.rseq E_ok [0, 1, 2, 3, 4, 7, 11] fun K hK => ?_
      simp [encSer_eq, encIsss_eq]
      repeat refine ⟨by first | omega | assumption | (simp only [maxLen]; omega) | (intros; omega) | decide, ?_⟩
      refine hK _ ?_
      clear hK K
      refine AWp.ret ?_
      repeat first | refine thenN ?_ | refine thenX ?_ | refine thenR ?_ | refine blockN ?_ | refine blockR ?_ | refine blockX ?_ | refine blockM rfl ?_
      simp [RetOk, RV, hb]
    · try simp at h11
      have hb : itemR s.iss it = 0 := by unfold itemR; rw [if_neg (by omega), if_neg (by unfold hasIt; simpa using h11)]
      refine AWp.skip ?_
      repeat first | refine thenN ?_ | refine thenX ?_ | refine thenR ?_ | refine blockN ?_ | refine blockR ?_ | refine blockX ?_ | refine blockM rfl ?_
      -- region 5
      refine AWp.rseq E_ok [0, 1, 2, 3, 4, 7, 11] fun K hK => ?_
      simp [encSer_eq, encIsss_eq]
      repeat refine ⟨by first | omega | assumption | (simp only [maxLen]; omega) | (intros; omega) | decide, ?_⟩
      refine hK _ ?_
      clear hK K
      refine AWp.ret ?_
      repeat first | refine thenN ?_ | refine thenX ?_ | refine thenR ?_ | refine blockN ?_ | refine blockR ?_ | refine blockX ?_ | refine blockM rfl ?_
      simp [RetOk, RV, hb]
end Go.Proofs.Ytceapemkefaicaa
