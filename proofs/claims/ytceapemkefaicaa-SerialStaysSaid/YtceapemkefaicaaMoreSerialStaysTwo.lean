/-
  What the functions compute that the statement reaches: contracts, and the plain laws between them. Conditions stand at each theorem.
-/
import Derived.Test.YtceapemkefaicaaMoreSerialStaysOne
set_option linter.unusedVariables false
set_option linter.unusedSimpArgs false
set_option maxRecDepth 100000
set_option linter.unusedSimpArgs false
set_option linter.unusedVariables false
namespace Go.Proofs.Ytceapemkefaicaa
open Go Ab Pl
set_option maxHeartbeats 8000000 in
theorem law37_kept (a b : Ser) (hl : a.iss.length ≤ 1000) : ACalls E.P 38 [encSer a, encSer b] (.d (.bool (keptB a b))) := by
  refine ACalls.intro E_ok Try.func38 rfl rfl Try.ntmps38 Try.results38 (Nat.le_of_ble_eq_true rfl) fun hok base S0 w0 => ?_
  -- region 0
  refine AWp.rseq E_ok [0, 1, 2, 3, 4, 5, 6, 7, 21, 24, 25, 26, 44] fun K hK => ?_
  simp [encSer_eq, encIsss_eq, encIss_eq, zIss]
  try simp (disch := omega) only [wrap_i64]
  repeat refine ⟨by first | omega | assumption | (simp only [maxLen]; omega) | (intros; omega) | decide, ?_⟩
  refine hK _ ?_
  clear hK K
  refine AWp.seq ?_
  -- region 1
  refine AWp.rseq E_ok [0, 1, 2, 3, 4, 5, 6, 7, 21, 24, 25, 26, 44] fun K hK => ?_
  simp [encSer_eq, encIsss_eq, encIss_eq, zIss]
  try simp (disch := omega) only [wrap_i64]
  repeat refine ⟨by first | omega | assumption | (simp only [maxLen]; omega) | (intros; omega) | decide, ?_⟩
  refine hK _ ?_
  clear hK K
  refine AWp.cond rfl (fun h21 => ?_) (fun h21 => ?_)
  · try simp at h21
    have hb : keptB a b = false := kept_not (by omega)
    -- region 2
    refine AWp.rseq E_ok [0, 1, 2, 3, 4, 5, 6, 7, 21, 24, 25, 26, 44] fun K hK => ?_
    simp [encSer_eq, encIsss_eq, encIss_eq, zIss]
    try simp (disch := omega) only [wrap_i64]
    repeat refine ⟨by first | omega | assumption | (simp only [maxLen]; omega) | (intros; omega) | decide, ?_⟩
    refine hK _ ?_
    clear hK K
    refine AWp.ret ?_
    repeat first | refine thenN ?_ | refine thenX ?_ | refine thenR ?_ | refine blockN ?_ | refine blockR ?_ | refine blockX ?_ | refine blockM rfl ?_
    simp [RetOk, RV, hb]
  · try simp at h21
    have hle := kept_F (a := a) (b := b) (by omega) (by omega)
    refine AWp.skip ?_
    repeat first | refine thenN ?_ | refine thenX ?_ | refine thenR ?_ | refine blockN ?_ | refine blockR ?_ | refine blockX ?_ | refine blockM rfl ?_
    refine AWp.seq ?_
    -- region 3
    refine AWp.rseq E_ok [0, 1, 2, 3, 4, 5, 6, 7, 21, 24, 25, 26, 44] fun K hK => ?_
    simp [encSer_eq, encIsss_eq, encIss_eq, zIss]
    try simp (disch := omega) only [wrap_i64]
    repeat refine ⟨by first | omega | assumption | (simp only [maxLen]; omega) | (intros; omega) | decide, ?_⟩
    refine hK _ ?_
    clear hK K
    refine AWp.block ?_
    refine AWp.range (l := a.iss) (F := kepF) (tot := kepF b.iss a.iss) (fun k y => match y with | bs => bs = b.iss.drop k) (fun k y => match y with | bs => [(0, T.val (D.agg [D.int IntKind.i64 a.rcd, D.int IntKind.i64 a.pat.start, D.int IntKind.i64 a.pat.every, D.int IntKind.i64 a.pat.per, D.int IntKind.i64 a.pat.first, encInts a.pat.skip, encInts a.pat.dbl, D.int IntKind.i64 a.next, (D.agg [D.int IntKind.i64 0, D.int IntKind.i64 0, D.int IntKind.i64 0, D.int IntKind.i64 0, D.int IntKind.i64 0, D.int IntKind.i64 0]).slice (List.map encIss a.iss)])), (1, T.val (D.agg [D.int IntKind.i64 b.rcd, D.int IntKind.i64 b.pat.start, D.int IntKind.i64 b.pat.every, D.int IntKind.i64 b.pat.per, D.int IntKind.i64 b.pat.first, encInts b.pat.skip, encInts b.pat.dbl, D.int IntKind.i64 b.next, (D.agg [D.int IntKind.i64 0, D.int IntKind.i64 0, D.int IntKind.i64 0, D.int IntKind.i64 0, D.int IntKind.i64 0, D.int IntKind.i64 0]).slice (List.map encIss b.iss)])), (2, T.box [C.d (D.int IntKind.i64 a.rcd), C.d (D.int IntKind.i64 a.pat.start), C.d (D.int IntKind.i64 a.pat.every), C.d (D.int IntKind.i64 a.pat.per), C.d (D.int IntKind.i64 a.pat.first), C.d (encInts a.pat.skip), C.d (encInts a.pat.dbl), C.d (D.int IntKind.i64 a.next), C.d ((D.agg [D.int IntKind.i64 0, D.int IntKind.i64 0, D.int IntKind.i64 0, D.int IntKind.i64 0, D.int IntKind.i64 0, D.int IntKind.i64 0]).slice (List.map encIss a.iss))]), (3, T.box [C.d (D.int IntKind.i64 b.rcd), C.d (D.int IntKind.i64 b.pat.start), C.d (D.int IntKind.i64 b.pat.every), C.d (D.int IntKind.i64 b.pat.per), C.d (D.int IntKind.i64 b.pat.first), C.d (encInts b.pat.skip), C.d (encInts b.pat.dbl), C.d (D.int IntKind.i64 b.next), C.d ((D.agg [D.int IntKind.i64 0, D.int IntKind.i64 0, D.int IntKind.i64 0, D.int IntKind.i64 0, D.int IntKind.i64 0, D.int IntKind.i64 0]).slice (List.map encIss b.iss))]), (24, T.val (D.int IntKind.i64 ↑a.iss.length)), (25, T.val (.int .i64 k))]) (b.iss) ?_ rfl ?_ ?_
    · simp [Weak, TW, encSer_eq, encIsss_eq, encIss_eq, zIss]
    · first | exact trivial | (simp; omega) | simp
    rintro k bs hk hs hi
    try simp only at hi
    -- region 4
    refine AWp.rseq E_ok [0, 1, 2, 3, 4, 5, 6, 7, 21, 24, 25, 26, 44] fun K hK => ?_
    simp [encSer_eq, encIsss_eq, encIss_eq, zIss]
    try simp (disch := omega) only [wrap_i64]
    repeat refine ⟨by first | omega | assumption | (simp only [maxLen]; omega) | (intros; omega) | decide, ?_⟩
    refine hK _ ?_
    clear hK K
    refine AWp.seq ?_
    refine AWp.cond rfl (fun h26 => ?_) (fun h26 => ?_)
    · try simp at h26
      obtain ⟨y, hy1, hy2, hyd⟩ := at_indexG (l := b.iss) (k := k) (by omega)
      rw [hi, hyd] at hs
      have hkb : k < b.iss.length := by omega
      obtain ⟨x, hx, hxx, hd⟩ := at_indexG (l := a.iss) h26
      rw [hd] at hs
      refine AWp.skip ?_
      repeat first | refine thenN ?_ | refine thenX ?_ | refine thenR ?_ | refine blockN ?_ | refine blockR ?_ | refine blockX ?_ | refine blockM rfl ?_
      refine AWp.seq ?_
      refine AWp.block ?_
      -- region 5
      refine AWp.rseq E_ok [0, 1, 2, 3, 4, 5, 6, 7, 21, 24, 25, 26, 44] fun K hK => ?_
      simp [encSer_eq, encIsss_eq, encIss_eq, zIss, h26, hy1, hy2, hkb, hx, hxx]
      try simp (disch := omega) only [wrap_i64]
      repeat refine ⟨by first | omega | assumption | (simp only [maxLen]; omega) | (intros; omega) | decide, ?_⟩
      refine hK _ ?_
      clear hK K
      -- region 6, every order
      refine AWp.rseqS E_ok mixed [0, 1, 2, 3, 4, 5, 6, 7, 21, 24, 25, 26, 44] (n := 14) (l := #[false, false, false, false, false, false, false, false, false, false, false, false, false, false]) rfl (by kernel_rfl) fun K hK => ?_
      suffices hnext : K [(0, T.val (D.agg [D.int IntKind.i64 a.rcd, D.int IntKind.i64 a.pat.start, D.int IntKind.i64 a.pat.every, D.int IntKind.i64 a.pat.per, D.int IntKind.i64 a.pat.first, encInts a.pat.skip, encInts a.pat.dbl, D.int IntKind.i64 a.next, (D.agg [D.int IntKind.i64 (0 : Int), D.int IntKind.i64 (0 : Int), D.int IntKind.i64 (0 : Int), D.int IntKind.i64 (0 : Int), D.int IntKind.i64 (0 : Int), D.int IntKind.i64 (0 : Int)]).slice (List.map encIss a.iss)])), (1, T.val (D.agg [D.int IntKind.i64 b.rcd, D.int IntKind.i64 b.pat.start, D.int IntKind.i64 b.pat.every, D.int IntKind.i64 b.pat.per, D.int IntKind.i64 b.pat.first, encInts b.pat.skip, encInts b.pat.dbl, D.int IntKind.i64 b.next, (D.agg [D.int IntKind.i64 (0 : Int), D.int IntKind.i64 (0 : Int), D.int IntKind.i64 (0 : Int), D.int IntKind.i64 (0 : Int), D.int IntKind.i64 (0 : Int), D.int IntKind.i64 (0 : Int)]).slice (List.map encIss b.iss)])), (2, T.box [C.d (D.int IntKind.i64 a.rcd), C.d (D.int IntKind.i64 a.pat.start), C.d (D.int IntKind.i64 a.pat.every), C.d (D.int IntKind.i64 a.pat.per), C.d (D.int IntKind.i64 a.pat.first), C.d (encInts a.pat.skip), C.d (encInts a.pat.dbl), C.d (D.int IntKind.i64 a.next), C.d ((D.agg [D.int IntKind.i64 (0 : Int), D.int IntKind.i64 (0 : Int), D.int IntKind.i64 (0 : Int), D.int IntKind.i64 (0 : Int), D.int IntKind.i64 (0 : Int), D.int IntKind.i64 (0 : Int)]).slice (List.map encIss a.iss))]), (3, T.box [C.d (D.int IntKind.i64 b.rcd), C.d (D.int IntKind.i64 b.pat.start), C.d (D.int IntKind.i64 b.pat.every), C.d (D.int IntKind.i64 b.pat.per), C.d (D.int IntKind.i64 b.pat.first), C.d (encInts b.pat.skip), C.d (encInts b.pat.dbl), C.d (D.int IntKind.i64 b.next), C.d ((D.agg [D.int IntKind.i64 (0 : Int), D.int IntKind.i64 (0 : Int), D.int IntKind.i64 (0 : Int), D.int IntKind.i64 (0 : Int), D.int IntKind.i64 (0 : Int), D.int IntKind.i64 (0 : Int)]).slice (List.map encIss b.iss))]), (4, T.junk), (5, T.val (D.int IntKind.i64 ↑k)), (6, T.box [C.d (D.int IntKind.i64 x.vol), C.d (D.int IntKind.i64 x.num), C.d (D.int IntKind.i64 x.last), C.d (D.int IntKind.i64 x.day), C.d (D.int IntKind.i64 x.st), C.d (D.int IntKind.i64 x.item)]), (7, T.box [C.d (D.int IntKind.i64 y.vol), C.d (D.int IntKind.i64 y.num), C.d (D.int IntKind.i64 y.last), C.d (D.int IntKind.i64 y.day), C.d (D.int IntKind.i64 y.st), C.d (D.int IntKind.i64 y.item)]), (21, T.junk), (24, T.val (D.int IntKind.i64 ↑a.iss.length)), (25, T.val (D.int IntKind.i64 ↑k)), (26, T.val (D.bool true)), (44, T.junk)] by
        refine contS.cut 0 #[true, true, true, true, true, true, true, true, true, true, true, true, true, true] [(0, T.val (D.agg [D.int IntKind.i64 a.rcd, D.int IntKind.i64 a.pat.start, D.int IntKind.i64 a.pat.every, D.int IntKind.i64 a.pat.per, D.int IntKind.i64 a.pat.first, encInts a.pat.skip, encInts a.pat.dbl, D.int IntKind.i64 a.next, (D.agg [D.int IntKind.i64 (0 : Int), D.int IntKind.i64 (0 : Int), D.int IntKind.i64 (0 : Int), D.int IntKind.i64 (0 : Int), D.int IntKind.i64 (0 : Int), D.int IntKind.i64 (0 : Int)]).slice (List.map encIss a.iss)])), (1, T.val (D.agg [D.int IntKind.i64 b.rcd, D.int IntKind.i64 b.pat.start, D.int IntKind.i64 b.pat.every, D.int IntKind.i64 b.pat.per, D.int IntKind.i64 b.pat.first, encInts b.pat.skip, encInts b.pat.dbl, D.int IntKind.i64 b.next, (D.agg [D.int IntKind.i64 (0 : Int), D.int IntKind.i64 (0 : Int), D.int IntKind.i64 (0 : Int), D.int IntKind.i64 (0 : Int), D.int IntKind.i64 (0 : Int), D.int IntKind.i64 (0 : Int)]).slice (List.map encIss b.iss)])), (2, T.box [C.d (D.int IntKind.i64 a.rcd), C.d (D.int IntKind.i64 a.pat.start), C.d (D.int IntKind.i64 a.pat.every), C.d (D.int IntKind.i64 a.pat.per), C.d (D.int IntKind.i64 a.pat.first), C.d (encInts a.pat.skip), C.d (encInts a.pat.dbl), C.d (D.int IntKind.i64 a.next), C.d ((D.agg [D.int IntKind.i64 (0 : Int), D.int IntKind.i64 (0 : Int), D.int IntKind.i64 (0 : Int), D.int IntKind.i64 (0 : Int), D.int IntKind.i64 (0 : Int), D.int IntKind.i64 (0 : Int)]).slice (List.map encIss a.iss))]), (3, T.box [C.d (D.int IntKind.i64 b.rcd), C.d (D.int IntKind.i64 b.pat.start), C.d (D.int IntKind.i64 b.pat.every), C.d (D.int IntKind.i64 b.pat.per), C.d (D.int IntKind.i64 b.pat.first), C.d (encInts b.pat.skip), C.d (encInts b.pat.dbl), C.d (D.int IntKind.i64 b.next), C.d ((D.agg [D.int IntKind.i64 (0 : Int), D.int IntKind.i64 (0 : Int), D.int IntKind.i64 (0 : Int), D.int IntKind.i64 (0 : Int), D.int IntKind.i64 (0 : Int), D.int IntKind.i64 (0 : Int)]).slice (List.map encIss b.iss))]), (5, T.val (D.int IntKind.i64 ↑k)), (6, T.box [C.d (D.int IntKind.i64 x.vol), C.d (D.int IntKind.i64 x.num), C.d (D.int IntKind.i64 x.last), C.d (D.int IntKind.i64 x.day), C.d (D.int IntKind.i64 x.st), C.d (D.int IntKind.i64 x.item)]), (7, T.box [C.d (D.int IntKind.i64 y.vol), C.d (D.int IntKind.i64 y.num), C.d (D.int IntKind.i64 y.last), C.d (D.int IntKind.i64 y.day), C.d (D.int IntKind.i64 y.st), C.d (D.int IntKind.i64 y.item)]), (24, T.val (D.int IntKind.i64 ↑a.iss.length)), (25, T.val (D.int IntKind.i64 ↑k)), (26, T.val (D.bool true))] ?_ fun h_1_4_6_9_10_11_12_13_ => ?_
        · skip
          refine coreS.nil (by kernel_rfl) ?_
          simpa [encSer_eq, encIsss_eq, encIss_eq, zIss] using hnext
        refine contS.cut 1 #[true, true, true, true, true, true, true, true, true, true, true, true, true, false] [(0, T.val (D.agg [D.int IntKind.i64 a.rcd, D.int IntKind.i64 a.pat.start, D.int IntKind.i64 a.pat.every, D.int IntKind.i64 a.pat.per, D.int IntKind.i64 a.pat.first, encInts a.pat.skip, encInts a.pat.dbl, D.int IntKind.i64 a.next, (D.agg [D.int IntKind.i64 (0 : Int), D.int IntKind.i64 (0 : Int), D.int IntKind.i64 (0 : Int), D.int IntKind.i64 (0 : Int), D.int IntKind.i64 (0 : Int), D.int IntKind.i64 (0 : Int)]).slice (List.map encIss a.iss)])), (1, T.val (D.agg [D.int IntKind.i64 b.rcd, D.int IntKind.i64 b.pat.start, D.int IntKind.i64 b.pat.every, D.int IntKind.i64 b.pat.per, D.int IntKind.i64 b.pat.first, encInts b.pat.skip, encInts b.pat.dbl, D.int IntKind.i64 b.next, (D.agg [D.int IntKind.i64 (0 : Int), D.int IntKind.i64 (0 : Int), D.int IntKind.i64 (0 : Int), D.int IntKind.i64 (0 : Int), D.int IntKind.i64 (0 : Int), D.int IntKind.i64 (0 : Int)]).slice (List.map encIss b.iss)])), (2, T.box [C.d (D.int IntKind.i64 a.rcd), C.d (D.int IntKind.i64 a.pat.start), C.d (D.int IntKind.i64 a.pat.every), C.d (D.int IntKind.i64 a.pat.per), C.d (D.int IntKind.i64 a.pat.first), C.d (encInts a.pat.skip), C.d (encInts a.pat.dbl), C.d (D.int IntKind.i64 a.next), C.d ((D.agg [D.int IntKind.i64 (0 : Int), D.int IntKind.i64 (0 : Int), D.int IntKind.i64 (0 : Int), D.int IntKind.i64 (0 : Int), D.int IntKind.i64 (0 : Int), D.int IntKind.i64 (0 : Int)]).slice (List.map encIss a.iss))]), (3, T.box [C.d (D.int IntKind.i64 b.rcd), C.d (D.int IntKind.i64 b.pat.start), C.d (D.int IntKind.i64 b.pat.every), C.d (D.int IntKind.i64 b.pat.per), C.d (D.int IntKind.i64 b.pat.first), C.d (encInts b.pat.skip), C.d (encInts b.pat.dbl), C.d (D.int IntKind.i64 b.next), C.d ((D.agg [D.int IntKind.i64 (0 : Int), D.int IntKind.i64 (0 : Int), D.int IntKind.i64 (0 : Int), D.int IntKind.i64 (0 : Int), D.int IntKind.i64 (0 : Int), D.int IntKind.i64 (0 : Int)]).slice (List.map encIss b.iss))]), (5, T.val (D.int IntKind.i64 ↑k)), (6, T.box [C.d (D.int IntKind.i64 x.vol), C.d (D.int IntKind.i64 x.num), C.d (D.int IntKind.i64 x.last), C.d (D.int IntKind.i64 x.day), C.d (D.int IntKind.i64 x.st), C.d (D.int IntKind.i64 x.item)]), (7, T.box [C.d (D.int IntKind.i64 (0 : Int)), C.d (D.int IntKind.i64 (0 : Int)), C.d (D.int IntKind.i64 (0 : Int)), C.d (D.int IntKind.i64 (0 : Int)), C.d (D.int IntKind.i64 (0 : Int)), C.d (D.int IntKind.i64 (0 : Int))]), (24, T.val (D.int IntKind.i64 ↑a.iss.length)), (25, T.val (D.int IntKind.i64 ↑k)), (26, T.val (D.bool true)), (37, T.val (D.agg [D.int IntKind.i64 y.vol, D.int IntKind.i64 y.num, D.int IntKind.i64 y.last, D.int IntKind.i64 y.day, D.int IntKind.i64 y.st, D.int IntKind.i64 y.item]))] ?_ fun h_1_4_6_9_10_11_12 => ?_
        · skip
          refine coreS.step E_ok [13] (by kernel_rfl) (by simp) ?_
          refine anyS.cons rfl ?_ ?_
          · skip
            simp [encSer_eq, encIsss_eq, encIss_eq, zIss, h26, hy1, hy2, hkb, hx, hxx]
            try simp (disch := omega) only [wrap_i64]
            repeat refine ⟨by first | omega | assumption | (simp only [maxLen]; omega) | (intros; omega) | decide, ?_⟩
            exact contS.mk (by simp [Weak, TW, T.plain, encSer_eq, encIsss_eq, encIss_eq, zIss]) h_1_4_6_9_10_11_12_13_ (by kernel_rfl)
          exact anyS.nil
        refine contS.cut 2 #[true, true, true, true, true, true, true, true, true, true, true, true, false, false] [(0, T.val (D.agg [D.int IntKind.i64 a.rcd, D.int IntKind.i64 a.pat.start, D.int IntKind.i64 a.pat.every, D.int IntKind.i64 a.pat.per, D.int IntKind.i64 a.pat.first, encInts a.pat.skip, encInts a.pat.dbl, D.int IntKind.i64 a.next, (D.agg [D.int IntKind.i64 (0 : Int), D.int IntKind.i64 (0 : Int), D.int IntKind.i64 (0 : Int), D.int IntKind.i64 (0 : Int), D.int IntKind.i64 (0 : Int), D.int IntKind.i64 (0 : Int)]).slice (List.map encIss a.iss)])), (1, T.val (D.agg [D.int IntKind.i64 b.rcd, D.int IntKind.i64 b.pat.start, D.int IntKind.i64 b.pat.every, D.int IntKind.i64 b.pat.per, D.int IntKind.i64 b.pat.first, encInts b.pat.skip, encInts b.pat.dbl, D.int IntKind.i64 b.next, (D.agg [D.int IntKind.i64 (0 : Int), D.int IntKind.i64 (0 : Int), D.int IntKind.i64 (0 : Int), D.int IntKind.i64 (0 : Int), D.int IntKind.i64 (0 : Int), D.int IntKind.i64 (0 : Int)]).slice (List.map encIss b.iss)])), (2, T.box [C.d (D.int IntKind.i64 a.rcd), C.d (D.int IntKind.i64 a.pat.start), C.d (D.int IntKind.i64 a.pat.every), C.d (D.int IntKind.i64 a.pat.per), C.d (D.int IntKind.i64 a.pat.first), C.d (encInts a.pat.skip), C.d (encInts a.pat.dbl), C.d (D.int IntKind.i64 a.next), C.d ((D.agg [D.int IntKind.i64 (0 : Int), D.int IntKind.i64 (0 : Int), D.int IntKind.i64 (0 : Int), D.int IntKind.i64 (0 : Int), D.int IntKind.i64 (0 : Int), D.int IntKind.i64 (0 : Int)]).slice (List.map encIss a.iss))]), (3, T.box [C.d (D.int IntKind.i64 b.rcd), C.d (D.int IntKind.i64 b.pat.start), C.d (D.int IntKind.i64 b.pat.every), C.d (D.int IntKind.i64 b.pat.per), C.d (D.int IntKind.i64 b.pat.first), C.d (encInts b.pat.skip), C.d (encInts b.pat.dbl), C.d (D.int IntKind.i64 b.next), C.d ((D.agg [D.int IntKind.i64 (0 : Int), D.int IntKind.i64 (0 : Int), D.int IntKind.i64 (0 : Int), D.int IntKind.i64 (0 : Int), D.int IntKind.i64 (0 : Int), D.int IntKind.i64 (0 : Int)]).slice (List.map encIss b.iss))]), (5, T.val (D.int IntKind.i64 ↑k)), (6, T.box [C.d (D.int IntKind.i64 (0 : Int)), C.d (D.int IntKind.i64 (0 : Int)), C.d (D.int IntKind.i64 (0 : Int)), C.d (D.int IntKind.i64 (0 : Int)), C.d (D.int IntKind.i64 (0 : Int)), C.d (D.int IntKind.i64 (0 : Int))]), (7, T.box [C.d (D.int IntKind.i64 (0 : Int)), C.d (D.int IntKind.i64 (0 : Int)), C.d (D.int IntKind.i64 (0 : Int)), C.d (D.int IntKind.i64 (0 : Int)), C.d (D.int IntKind.i64 (0 : Int)), C.d (D.int IntKind.i64 (0 : Int))]), (24, T.val (D.int IntKind.i64 ↑a.iss.length)), (25, T.val (D.int IntKind.i64 ↑k)), (26, T.val (D.bool true)), (32, T.val (D.agg [D.int IntKind.i64 x.vol, D.int IntKind.i64 x.num, D.int IntKind.i64 x.last, D.int IntKind.i64 x.day, D.int IntKind.i64 x.st, D.int IntKind.i64 x.item])), (37, T.val (D.agg [D.int IntKind.i64 y.vol, D.int IntKind.i64 y.num, D.int IntKind.i64 y.last, D.int IntKind.i64 y.day, D.int IntKind.i64 y.st, D.int IntKind.i64 y.item]))] ?_ fun h_1_4_6_9_10_11 => ?_
        · skip
          refine coreS.step E_ok [12] (by kernel_rfl) (by simp) ?_
          refine anyS.cons rfl ?_ ?_
          · skip
            simp [encSer_eq, encIsss_eq, encIss_eq, zIss, h26, hy1, hy2, hkb, hx, hxx]
            try simp (disch := omega) only [wrap_i64]
            repeat refine ⟨by first | omega | assumption | (simp only [maxLen]; omega) | (intros; omega) | decide, ?_⟩
            exact contS.mk (by simp [Weak, TW, T.plain, encSer_eq, encIsss_eq, encIss_eq, zIss]) h_1_4_6_9_10_11_12 (by kernel_rfl)
          exact anyS.nil
        refine contS.cut 2 #[true, true, true, true, true, true, true, true, true, false, true, true, true, false] [(0, T.val (D.agg [D.int IntKind.i64 a.rcd, D.int IntKind.i64 a.pat.start, D.int IntKind.i64 a.pat.every, D.int IntKind.i64 a.pat.per, D.int IntKind.i64 a.pat.first, encInts a.pat.skip, encInts a.pat.dbl, D.int IntKind.i64 a.next, (D.agg [D.int IntKind.i64 (0 : Int), D.int IntKind.i64 (0 : Int), D.int IntKind.i64 (0 : Int), D.int IntKind.i64 (0 : Int), D.int IntKind.i64 (0 : Int), D.int IntKind.i64 (0 : Int)]).slice (List.map encIss a.iss)])), (1, T.val (D.agg [D.int IntKind.i64 b.rcd, D.int IntKind.i64 b.pat.start, D.int IntKind.i64 b.pat.every, D.int IntKind.i64 b.pat.per, D.int IntKind.i64 b.pat.first, encInts b.pat.skip, encInts b.pat.dbl, D.int IntKind.i64 b.next, (D.agg [D.int IntKind.i64 (0 : Int), D.int IntKind.i64 (0 : Int), D.int IntKind.i64 (0 : Int), D.int IntKind.i64 (0 : Int), D.int IntKind.i64 (0 : Int), D.int IntKind.i64 (0 : Int)]).slice (List.map encIss b.iss)])), (2, T.box [C.d (D.int IntKind.i64 a.rcd), C.d (D.int IntKind.i64 a.pat.start), C.d (D.int IntKind.i64 a.pat.every), C.d (D.int IntKind.i64 a.pat.per), C.d (D.int IntKind.i64 a.pat.first), C.d (encInts a.pat.skip), C.d (encInts a.pat.dbl), C.d (D.int IntKind.i64 a.next), C.d ((D.agg [D.int IntKind.i64 (0 : Int), D.int IntKind.i64 (0 : Int), D.int IntKind.i64 (0 : Int), D.int IntKind.i64 (0 : Int), D.int IntKind.i64 (0 : Int), D.int IntKind.i64 (0 : Int)]).slice (List.map encIss a.iss))]), (3, T.box [C.d (D.int IntKind.i64 b.rcd), C.d (D.int IntKind.i64 b.pat.start), C.d (D.int IntKind.i64 b.pat.every), C.d (D.int IntKind.i64 b.pat.per), C.d (D.int IntKind.i64 b.pat.first), C.d (encInts b.pat.skip), C.d (encInts b.pat.dbl), C.d (D.int IntKind.i64 b.next), C.d ((D.agg [D.int IntKind.i64 (0 : Int), D.int IntKind.i64 (0 : Int), D.int IntKind.i64 (0 : Int), D.int IntKind.i64 (0 : Int), D.int IntKind.i64 (0 : Int), D.int IntKind.i64 (0 : Int)]).slice (List.map encIss b.iss))]), (5, T.val (D.int IntKind.i64 ↑k)), (6, T.box [C.d (D.int IntKind.i64 x.vol), C.d (D.int IntKind.i64 x.num), C.d (D.int IntKind.i64 x.last), C.d (D.int IntKind.i64 x.day), C.d (D.int IntKind.i64 x.st), C.d (D.int IntKind.i64 x.item)]), (7, T.box [C.d (D.int IntKind.i64 (0 : Int)), C.d (D.int IntKind.i64 (0 : Int)), C.d (D.int IntKind.i64 (0 : Int)), C.d (D.int IntKind.i64 (0 : Int)), C.d (D.int IntKind.i64 (0 : Int)), C.d (D.int IntKind.i64 (0 : Int))]), (24, T.val (D.int IntKind.i64 ↑a.iss.length)), (25, T.val (D.int IntKind.i64 ↑k)), (26, T.val (D.bool true)), (36, T.val (D.ref [D.int IntKind.i64 y.vol, D.int IntKind.i64 y.num, D.int IntKind.i64 y.last, D.int IntKind.i64 y.day, D.int IntKind.i64 y.st, D.int IntKind.i64 y.item]))] ?_ fun h_1_4_6_10_11_12 => ?_
        · skip
          refine coreS.step E_ok [9] (by kernel_rfl) (by simp) ?_
          refine anyS.cons rfl ?_ ?_
          · skip
            simp [encSer_eq, encIsss_eq, encIss_eq, zIss, h26, hy1, hy2, hkb, hx, hxx]
            try simp (disch := omega) only [wrap_i64]
            repeat refine ⟨by first | omega | assumption | (simp only [maxLen]; omega) | (intros; omega) | decide, ?_⟩
            exact contS.mk (by simp [Weak, TW, T.plain, encSer_eq, encIsss_eq, encIss_eq, zIss]) h_1_4_6_9_10_11_12 (by kernel_rfl)
          exact anyS.nil
        refine contS.cut 3 #[true, true, true, true, true, true, true, true, true, true, true, false, false, false] [(0, T.val (D.agg [D.int IntKind.i64 a.rcd, D.int IntKind.i64 a.pat.start, D.int IntKind.i64 a.pat.every, D.int IntKind.i64 a.pat.per, D.int IntKind.i64 a.pat.first, encInts a.pat.skip, encInts a.pat.dbl, D.int IntKind.i64 a.next, (D.agg [D.int IntKind.i64 (0 : Int), D.int IntKind.i64 (0 : Int), D.int IntKind.i64 (0 : Int), D.int IntKind.i64 (0 : Int), D.int IntKind.i64 (0 : Int), D.int IntKind.i64 (0 : Int)]).slice (List.map encIss a.iss)])), (1, T.val (D.agg [D.int IntKind.i64 b.rcd, D.int IntKind.i64 b.pat.start, D.int IntKind.i64 b.pat.every, D.int IntKind.i64 b.pat.per, D.int IntKind.i64 b.pat.first, encInts b.pat.skip, encInts b.pat.dbl, D.int IntKind.i64 b.next, (D.agg [D.int IntKind.i64 (0 : Int), D.int IntKind.i64 (0 : Int), D.int IntKind.i64 (0 : Int), D.int IntKind.i64 (0 : Int), D.int IntKind.i64 (0 : Int), D.int IntKind.i64 (0 : Int)]).slice (List.map encIss b.iss)])), (2, T.box [C.d (D.int IntKind.i64 a.rcd), C.d (D.int IntKind.i64 a.pat.start), C.d (D.int IntKind.i64 a.pat.every), C.d (D.int IntKind.i64 a.pat.per), C.d (D.int IntKind.i64 a.pat.first), C.d (encInts a.pat.skip), C.d (encInts a.pat.dbl), C.d (D.int IntKind.i64 a.next), C.d ((D.agg [D.int IntKind.i64 (0 : Int), D.int IntKind.i64 (0 : Int), D.int IntKind.i64 (0 : Int), D.int IntKind.i64 (0 : Int), D.int IntKind.i64 (0 : Int), D.int IntKind.i64 (0 : Int)]).slice (List.map encIss a.iss))]), (3, T.box [C.d (D.int IntKind.i64 b.rcd), C.d (D.int IntKind.i64 b.pat.start), C.d (D.int IntKind.i64 b.pat.every), C.d (D.int IntKind.i64 b.pat.per), C.d (D.int IntKind.i64 b.pat.first), C.d (encInts b.pat.skip), C.d (encInts b.pat.dbl), C.d (D.int IntKind.i64 b.next), C.d ((D.agg [D.int IntKind.i64 (0 : Int), D.int IntKind.i64 (0 : Int), D.int IntKind.i64 (0 : Int), D.int IntKind.i64 (0 : Int), D.int IntKind.i64 (0 : Int), D.int IntKind.i64 (0 : Int)]).slice (List.map encIss b.iss))]), (5, T.val (D.int IntKind.i64 ↑k)), (6, T.box [C.d (D.int IntKind.i64 (0 : Int)), C.d (D.int IntKind.i64 (0 : Int)), C.d (D.int IntKind.i64 (0 : Int)), C.d (D.int IntKind.i64 (0 : Int)), C.d (D.int IntKind.i64 (0 : Int)), C.d (D.int IntKind.i64 (0 : Int))]), (24, T.val (D.int IntKind.i64 ↑a.iss.length)), (25, T.val (D.int IntKind.i64 ↑k)), (26, T.val (D.bool true)), (32, T.val (D.agg [D.int IntKind.i64 x.vol, D.int IntKind.i64 x.num, D.int IntKind.i64 x.last, D.int IntKind.i64 x.day, D.int IntKind.i64 x.st, D.int IntKind.i64 x.item])), (37, T.val (D.agg [D.int IntKind.i64 y.vol, D.int IntKind.i64 y.num, D.int IntKind.i64 y.last, D.int IntKind.i64 y.day, D.int IntKind.i64 y.st, D.int IntKind.i64 y.item]))] ?_ fun h_1_4_6_9_10 => ?_
        · skip
          refine coreS.step E_ok [11] (by kernel_rfl) (by simp) ?_
          refine anyS.cons rfl ?_ ?_
          · skip
            simp [encSer_eq, encIsss_eq, encIss_eq, zIss, h26, hy1, hy2, hkb, hx, hxx]
            try simp (disch := omega) only [wrap_i64]
            repeat refine ⟨by first | omega | assumption | (simp only [maxLen]; omega) | (intros; omega) | decide, ?_⟩
            exact contS.mk (by simp [Weak, TW, T.plain, encSer_eq, encIsss_eq, encIss_eq, zIss]) h_1_4_6_9_10_11 (by kernel_rfl)
          exact anyS.nil
        refine contS.cut 3 #[true, true, true, true, true, true, true, true, true, true, false, true, false, false] [(0, T.val (D.agg [D.int IntKind.i64 a.rcd, D.int IntKind.i64 a.pat.start, D.int IntKind.i64 a.pat.every, D.int IntKind.i64 a.pat.per, D.int IntKind.i64 a.pat.first, encInts a.pat.skip, encInts a.pat.dbl, D.int IntKind.i64 a.next, (D.agg [D.int IntKind.i64 (0 : Int), D.int IntKind.i64 (0 : Int), D.int IntKind.i64 (0 : Int), D.int IntKind.i64 (0 : Int), D.int IntKind.i64 (0 : Int), D.int IntKind.i64 (0 : Int)]).slice (List.map encIss a.iss)])), (1, T.val (D.agg [D.int IntKind.i64 b.rcd, D.int IntKind.i64 b.pat.start, D.int IntKind.i64 b.pat.every, D.int IntKind.i64 b.pat.per, D.int IntKind.i64 b.pat.first, encInts b.pat.skip, encInts b.pat.dbl, D.int IntKind.i64 b.next, (D.agg [D.int IntKind.i64 (0 : Int), D.int IntKind.i64 (0 : Int), D.int IntKind.i64 (0 : Int), D.int IntKind.i64 (0 : Int), D.int IntKind.i64 (0 : Int), D.int IntKind.i64 (0 : Int)]).slice (List.map encIss b.iss)])), (2, T.box [C.d (D.int IntKind.i64 a.rcd), C.d (D.int IntKind.i64 a.pat.start), C.d (D.int IntKind.i64 a.pat.every), C.d (D.int IntKind.i64 a.pat.per), C.d (D.int IntKind.i64 a.pat.first), C.d (encInts a.pat.skip), C.d (encInts a.pat.dbl), C.d (D.int IntKind.i64 a.next), C.d ((D.agg [D.int IntKind.i64 (0 : Int), D.int IntKind.i64 (0 : Int), D.int IntKind.i64 (0 : Int), D.int IntKind.i64 (0 : Int), D.int IntKind.i64 (0 : Int), D.int IntKind.i64 (0 : Int)]).slice (List.map encIss a.iss))]), (3, T.box [C.d (D.int IntKind.i64 b.rcd), C.d (D.int IntKind.i64 b.pat.start), C.d (D.int IntKind.i64 b.pat.every), C.d (D.int IntKind.i64 b.pat.per), C.d (D.int IntKind.i64 b.pat.first), C.d (encInts b.pat.skip), C.d (encInts b.pat.dbl), C.d (D.int IntKind.i64 b.next), C.d ((D.agg [D.int IntKind.i64 (0 : Int), D.int IntKind.i64 (0 : Int), D.int IntKind.i64 (0 : Int), D.int IntKind.i64 (0 : Int), D.int IntKind.i64 (0 : Int), D.int IntKind.i64 (0 : Int)]).slice (List.map encIss b.iss))]), (5, T.val (D.int IntKind.i64 ↑k)), (7, T.box [C.d (D.int IntKind.i64 (0 : Int)), C.d (D.int IntKind.i64 (0 : Int)), C.d (D.int IntKind.i64 (0 : Int)), C.d (D.int IntKind.i64 (0 : Int)), C.d (D.int IntKind.i64 (0 : Int)), C.d (D.int IntKind.i64 (0 : Int))]), (24, T.val (D.int IntKind.i64 ↑a.iss.length)), (25, T.val (D.int IntKind.i64 ↑k)), (26, T.val (D.bool true)), (32, T.val (D.agg [D.int IntKind.i64 x.vol, D.int IntKind.i64 x.num, D.int IntKind.i64 x.last, D.int IntKind.i64 x.day, D.int IntKind.i64 x.st, D.int IntKind.i64 x.item])), (37, T.val (D.agg [D.int IntKind.i64 y.vol, D.int IntKind.i64 y.num, D.int IntKind.i64 y.last, D.int IntKind.i64 y.day, D.int IntKind.i64 y.st, D.int IntKind.i64 y.item]))] ?_ fun h_1_4_6_9_11 => ?_
        · skip
          refine coreS.step E_ok [10] (by kernel_rfl) (by simp) ?_
          refine anyS.cons rfl ?_ ?_
          · skip
            simp [encSer_eq, encIsss_eq, encIss_eq, zIss, h26, hy1, hy2, hkb, hx, hxx]
            try simp (disch := omega) only [wrap_i64]
            repeat refine ⟨by first | omega | assumption | (simp only [maxLen]; omega) | (intros; omega) | decide, ?_⟩
            exact contS.mk (by simp [Weak, TW, T.plain, encSer_eq, encIsss_eq, encIss_eq, zIss]) h_1_4_6_9_10_11 (by kernel_rfl)
          exact anyS.nil
        refine contS.cut 3 #[true, true, true, true, true, true, true, true, true, false, true, true, false, false] [(0, T.val (D.agg [D.int IntKind.i64 a.rcd, D.int IntKind.i64 a.pat.start, D.int IntKind.i64 a.pat.every, D.int IntKind.i64 a.pat.per, D.int IntKind.i64 a.pat.first, encInts a.pat.skip, encInts a.pat.dbl, D.int IntKind.i64 a.next, (D.agg [D.int IntKind.i64 (0 : Int), D.int IntKind.i64 (0 : Int), D.int IntKind.i64 (0 : Int), D.int IntKind.i64 (0 : Int), D.int IntKind.i64 (0 : Int), D.int IntKind.i64 (0 : Int)]).slice (List.map encIss a.iss)])), (1, T.val (D.agg [D.int IntKind.i64 b.rcd, D.int IntKind.i64 b.pat.start, D.int IntKind.i64 b.pat.every, D.int IntKind.i64 b.pat.per, D.int IntKind.i64 b.pat.first, encInts b.pat.skip, encInts b.pat.dbl, D.int IntKind.i64 b.next, (D.agg [D.int IntKind.i64 (0 : Int), D.int IntKind.i64 (0 : Int), D.int IntKind.i64 (0 : Int), D.int IntKind.i64 (0 : Int), D.int IntKind.i64 (0 : Int), D.int IntKind.i64 (0 : Int)]).slice (List.map encIss b.iss)])), (2, T.box [C.d (D.int IntKind.i64 a.rcd), C.d (D.int IntKind.i64 a.pat.start), C.d (D.int IntKind.i64 a.pat.every), C.d (D.int IntKind.i64 a.pat.per), C.d (D.int IntKind.i64 a.pat.first), C.d (encInts a.pat.skip), C.d (encInts a.pat.dbl), C.d (D.int IntKind.i64 a.next), C.d ((D.agg [D.int IntKind.i64 (0 : Int), D.int IntKind.i64 (0 : Int), D.int IntKind.i64 (0 : Int), D.int IntKind.i64 (0 : Int), D.int IntKind.i64 (0 : Int), D.int IntKind.i64 (0 : Int)]).slice (List.map encIss a.iss))]), (3, T.box [C.d (D.int IntKind.i64 b.rcd), C.d (D.int IntKind.i64 b.pat.start), C.d (D.int IntKind.i64 b.pat.every), C.d (D.int IntKind.i64 b.pat.per), C.d (D.int IntKind.i64 b.pat.first), C.d (encInts b.pat.skip), C.d (encInts b.pat.dbl), C.d (D.int IntKind.i64 b.next), C.d ((D.agg [D.int IntKind.i64 (0 : Int), D.int IntKind.i64 (0 : Int), D.int IntKind.i64 (0 : Int), D.int IntKind.i64 (0 : Int), D.int IntKind.i64 (0 : Int), D.int IntKind.i64 (0 : Int)]).slice (List.map encIss b.iss))]), (5, T.val (D.int IntKind.i64 ↑k)), (6, T.box [C.d (D.int IntKind.i64 (0 : Int)), C.d (D.int IntKind.i64 (0 : Int)), C.d (D.int IntKind.i64 (0 : Int)), C.d (D.int IntKind.i64 (0 : Int)), C.d (D.int IntKind.i64 (0 : Int)), C.d (D.int IntKind.i64 (0 : Int))]), (7, T.box [C.d (D.int IntKind.i64 (0 : Int)), C.d (D.int IntKind.i64 (0 : Int)), C.d (D.int IntKind.i64 (0 : Int)), C.d (D.int IntKind.i64 (0 : Int)), C.d (D.int IntKind.i64 (0 : Int)), C.d (D.int IntKind.i64 (0 : Int))]), (24, T.val (D.int IntKind.i64 ↑a.iss.length)), (25, T.val (D.int IntKind.i64 ↑k)), (26, T.val (D.bool true)), (32, T.val (D.agg [D.int IntKind.i64 x.vol, D.int IntKind.i64 x.num, D.int IntKind.i64 x.last, D.int IntKind.i64 x.day, D.int IntKind.i64 x.st, D.int IntKind.i64 x.item])), (36, T.val (D.ref [D.int IntKind.i64 y.vol, D.int IntKind.i64 y.num, D.int IntKind.i64 y.last, D.int IntKind.i64 y.day, D.int IntKind.i64 y.st, D.int IntKind.i64 y.item]))] ?_ fun h_1_4_6_10_11 => ?_
        · skip
          refine coreS.step E_ok [9, 12] (by kernel_rfl) (by simp) ?_
          refine anyS.cons rfl ?_ ?_
          · skip
            simp [encSer_eq, encIsss_eq, encIss_eq, zIss, h26, hy1, hy2, hkb, hx, hxx]
            try simp (disch := omega) only [wrap_i64]
            repeat refine ⟨by first | omega | assumption | (simp only [maxLen]; omega) | (intros; omega) | decide, ?_⟩
            exact contS.mk (by simp [Weak, TW, T.plain, encSer_eq, encIsss_eq, encIss_eq, zIss]) h_1_4_6_9_10_11 (by kernel_rfl)
          refine anyS.cons rfl ?_ ?_
          · skip
            simp [encSer_eq, encIsss_eq, encIss_eq, zIss, h26, hy1, hy2, hkb, hx, hxx]
            try simp (disch := omega) only [wrap_i64]
            repeat refine ⟨by first | omega | assumption | (simp only [maxLen]; omega) | (intros; omega) | decide, ?_⟩
            exact contS.mk (by simp [Weak, TW, T.plain, encSer_eq, encIsss_eq, encIss_eq, zIss]) h_1_4_6_10_11_12 (by kernel_rfl)
          exact anyS.nil
        refine contS.cut 3 #[true, true, true, true, false, true, true, true, true, true, true, true, false, false] [(0, T.val (D.agg [D.int IntKind.i64 a.rcd, D.int IntKind.i64 a.pat.start, D.int IntKind.i64 a.pat.every, D.int IntKind.i64 a.pat.per, D.int IntKind.i64 a.pat.first, encInts a.pat.skip, encInts a.pat.dbl, D.int IntKind.i64 a.next, (D.agg [D.int IntKind.i64 (0 : Int), D.int IntKind.i64 (0 : Int), D.int IntKind.i64 (0 : Int), D.int IntKind.i64 (0 : Int), D.int IntKind.i64 (0 : Int), D.int IntKind.i64 (0 : Int)]).slice (List.map encIss a.iss)])), (1, T.val (D.agg [D.int IntKind.i64 b.rcd, D.int IntKind.i64 b.pat.start, D.int IntKind.i64 b.pat.every, D.int IntKind.i64 b.pat.per, D.int IntKind.i64 b.pat.first, encInts b.pat.skip, encInts b.pat.dbl, D.int IntKind.i64 b.next, (D.agg [D.int IntKind.i64 (0 : Int), D.int IntKind.i64 (0 : Int), D.int IntKind.i64 (0 : Int), D.int IntKind.i64 (0 : Int), D.int IntKind.i64 (0 : Int), D.int IntKind.i64 (0 : Int)]).slice (List.map encIss b.iss)])), (2, T.box [C.d (D.int IntKind.i64 a.rcd), C.d (D.int IntKind.i64 a.pat.start), C.d (D.int IntKind.i64 a.pat.every), C.d (D.int IntKind.i64 a.pat.per), C.d (D.int IntKind.i64 a.pat.first), C.d (encInts a.pat.skip), C.d (encInts a.pat.dbl), C.d (D.int IntKind.i64 a.next), C.d ((D.agg [D.int IntKind.i64 (0 : Int), D.int IntKind.i64 (0 : Int), D.int IntKind.i64 (0 : Int), D.int IntKind.i64 (0 : Int), D.int IntKind.i64 (0 : Int), D.int IntKind.i64 (0 : Int)]).slice (List.map encIss a.iss))]), (3, T.box [C.d (D.int IntKind.i64 b.rcd), C.d (D.int IntKind.i64 b.pat.start), C.d (D.int IntKind.i64 b.pat.every), C.d (D.int IntKind.i64 b.pat.per), C.d (D.int IntKind.i64 b.pat.first), C.d (encInts b.pat.skip), C.d (encInts b.pat.dbl), C.d (D.int IntKind.i64 b.next), C.d ((D.agg [D.int IntKind.i64 (0 : Int), D.int IntKind.i64 (0 : Int), D.int IntKind.i64 (0 : Int), D.int IntKind.i64 (0 : Int), D.int IntKind.i64 (0 : Int), D.int IntKind.i64 (0 : Int)]).slice (List.map encIss b.iss))]), (5, T.val (D.int IntKind.i64 ↑k)), (6, T.box [C.d (D.int IntKind.i64 (0 : Int)), C.d (D.int IntKind.i64 (0 : Int)), C.d (D.int IntKind.i64 (0 : Int)), C.d (D.int IntKind.i64 (0 : Int)), C.d (D.int IntKind.i64 (0 : Int)), C.d (D.int IntKind.i64 (0 : Int))]), (7, T.box [C.d (D.int IntKind.i64 (0 : Int)), C.d (D.int IntKind.i64 (0 : Int)), C.d (D.int IntKind.i64 (0 : Int)), C.d (D.int IntKind.i64 (0 : Int)), C.d (D.int IntKind.i64 (0 : Int)), C.d (D.int IntKind.i64 (0 : Int))]), (24, T.val (D.int IntKind.i64 ↑a.iss.length)), (25, T.val (D.int IntKind.i64 ↑k)), (26, T.val (D.bool true)), (31, T.val (D.ref [D.int IntKind.i64 x.vol, D.int IntKind.i64 x.num, D.int IntKind.i64 x.last, D.int IntKind.i64 x.day, D.int IntKind.i64 x.st, D.int IntKind.i64 x.item])), (37, T.val (D.agg [D.int IntKind.i64 y.vol, D.int IntKind.i64 y.num, D.int IntKind.i64 y.last, D.int IntKind.i64 y.day, D.int IntKind.i64 y.st, D.int IntKind.i64 y.item]))] ?_ fun h_1_6_9_10_11 => ?_
        · skip
          refine coreS.step E_ok [4] (by kernel_rfl) (by simp) ?_
          refine anyS.cons rfl ?_ ?_
          · skip
            simp [encSer_eq, encIsss_eq, encIss_eq, zIss, h26, hy1, hy2, hkb, hx, hxx]
            try simp (disch := omega) only [wrap_i64]
            repeat refine ⟨by first | omega | assumption | (simp only [maxLen]; omega) | (intros; omega) | decide, ?_⟩
            exact contS.mk (by simp [Weak, TW, T.plain, encSer_eq, encIsss_eq, encIss_eq, zIss]) h_1_4_6_9_10_11 (by kernel_rfl)
          exact anyS.nil
        refine contS.cut 4 #[true, true, true, true, true, true, true, true, true, true, false, false, false, false] [(0, T.val (D.agg [D.int IntKind.i64 a.rcd, D.int IntKind.i64 a.pat.start, D.int IntKind.i64 a.pat.every, D.int IntKind.i64 a.pat.per, D.int IntKind.i64 a.pat.first, encInts a.pat.skip, encInts a.pat.dbl, D.int IntKind.i64 a.next, (D.agg [D.int IntKind.i64 (0 : Int), D.int IntKind.i64 (0 : Int), D.int IntKind.i64 (0 : Int), D.int IntKind.i64 (0 : Int), D.int IntKind.i64 (0 : Int), D.int IntKind.i64 (0 : Int)]).slice (List.map encIss a.iss)])), (1, T.val (D.agg [D.int IntKind.i64 b.rcd, D.int IntKind.i64 b.pat.start, D.int IntKind.i64 b.pat.every, D.int IntKind.i64 b.pat.per, D.int IntKind.i64 b.pat.first, encInts b.pat.skip, encInts b.pat.dbl, D.int IntKind.i64 b.next, (D.agg [D.int IntKind.i64 (0 : Int), D.int IntKind.i64 (0 : Int), D.int IntKind.i64 (0 : Int), D.int IntKind.i64 (0 : Int), D.int IntKind.i64 (0 : Int), D.int IntKind.i64 (0 : Int)]).slice (List.map encIss b.iss)])), (2, T.box [C.d (D.int IntKind.i64 a.rcd), C.d (D.int IntKind.i64 a.pat.start), C.d (D.int IntKind.i64 a.pat.every), C.d (D.int IntKind.i64 a.pat.per), C.d (D.int IntKind.i64 a.pat.first), C.d (encInts a.pat.skip), C.d (encInts a.pat.dbl), C.d (D.int IntKind.i64 a.next), C.d ((D.agg [D.int IntKind.i64 (0 : Int), D.int IntKind.i64 (0 : Int), D.int IntKind.i64 (0 : Int), D.int IntKind.i64 (0 : Int), D.int IntKind.i64 (0 : Int), D.int IntKind.i64 (0 : Int)]).slice (List.map encIss a.iss))]), (3, T.box [C.d (D.int IntKind.i64 b.rcd), C.d (D.int IntKind.i64 b.pat.start), C.d (D.int IntKind.i64 b.pat.every), C.d (D.int IntKind.i64 b.pat.per), C.d (D.int IntKind.i64 b.pat.first), C.d (encInts b.pat.skip), C.d (encInts b.pat.dbl), C.d (D.int IntKind.i64 b.next), C.d ((D.agg [D.int IntKind.i64 (0 : Int), D.int IntKind.i64 (0 : Int), D.int IntKind.i64 (0 : Int), D.int IntKind.i64 (0 : Int), D.int IntKind.i64 (0 : Int), D.int IntKind.i64 (0 : Int)]).slice (List.map encIss b.iss))]), (5, T.val (D.int IntKind.i64 ↑k)), (24, T.val (D.int IntKind.i64 ↑a.iss.length)), (25, T.val (D.int IntKind.i64 ↑k)), (26, T.val (D.bool true)), (32, T.val (D.agg [D.int IntKind.i64 x.vol, D.int IntKind.i64 x.num, D.int IntKind.i64 x.last, D.int IntKind.i64 x.day, D.int IntKind.i64 x.st, D.int IntKind.i64 x.item])), (37, T.val (D.agg [D.int IntKind.i64 y.vol, D.int IntKind.i64 y.num, D.int IntKind.i64 y.last, D.int IntKind.i64 y.day, D.int IntKind.i64 y.st, D.int IntKind.i64 y.item]))] ?_ fun h_1_4_6_9 => ?_
        · skip
          refine coreS.step E_ok [10, 11] (by kernel_rfl) (by simp) ?_
          refine anyS.cons rfl ?_ ?_
          · skip
            simp [encSer_eq, encIsss_eq, encIss_eq, zIss, h26, hy1, hy2, hkb, hx, hxx]
            try simp (disch := omega) only [wrap_i64]
            repeat refine ⟨by first | omega | assumption | (simp only [maxLen]; omega) | (intros; omega) | decide, ?_⟩
            exact contS.mk (by simp [Weak, TW, T.plain, encSer_eq, encIsss_eq, encIss_eq, zIss]) h_1_4_6_9_10 (by kernel_rfl)
          refine anyS.cons rfl ?_ ?_
          · skip
            simp [encSer_eq, encIsss_eq, encIss_eq, zIss, h26, hy1, hy2, hkb, hx, hxx]
            try simp (disch := omega) only [wrap_i64]
            repeat refine ⟨by first | omega | assumption | (simp only [maxLen]; omega) | (intros; omega) | decide, ?_⟩
            exact contS.mk (by simp [Weak, TW, T.plain, encSer_eq, encIsss_eq, encIss_eq, zIss]) h_1_4_6_9_11 (by kernel_rfl)
          exact anyS.nil
        refine contS.cut 4 #[true, true, true, true, true, true, true, true, true, false, true, false, false, false] [(0, T.val (D.agg [D.int IntKind.i64 a.rcd, D.int IntKind.i64 a.pat.start, D.int IntKind.i64 a.pat.every, D.int IntKind.i64 a.pat.per, D.int IntKind.i64 a.pat.first, encInts a.pat.skip, encInts a.pat.dbl, D.int IntKind.i64 a.next, (D.agg [D.int IntKind.i64 (0 : Int), D.int IntKind.i64 (0 : Int), D.int IntKind.i64 (0 : Int), D.int IntKind.i64 (0 : Int), D.int IntKind.i64 (0 : Int), D.int IntKind.i64 (0 : Int)]).slice (List.map encIss a.iss)])), (1, T.val (D.agg [D.int IntKind.i64 b.rcd, D.int IntKind.i64 b.pat.start, D.int IntKind.i64 b.pat.every, D.int IntKind.i64 b.pat.per, D.int IntKind.i64 b.pat.first, encInts b.pat.skip, encInts b.pat.dbl, D.int IntKind.i64 b.next, (D.agg [D.int IntKind.i64 (0 : Int), D.int IntKind.i64 (0 : Int), D.int IntKind.i64 (0 : Int), D.int IntKind.i64 (0 : Int), D.int IntKind.i64 (0 : Int), D.int IntKind.i64 (0 : Int)]).slice (List.map encIss b.iss)])), (2, T.box [C.d (D.int IntKind.i64 a.rcd), C.d (D.int IntKind.i64 a.pat.start), C.d (D.int IntKind.i64 a.pat.every), C.d (D.int IntKind.i64 a.pat.per), C.d (D.int IntKind.i64 a.pat.first), C.d (encInts a.pat.skip), C.d (encInts a.pat.dbl), C.d (D.int IntKind.i64 a.next), C.d ((D.agg [D.int IntKind.i64 (0 : Int), D.int IntKind.i64 (0 : Int), D.int IntKind.i64 (0 : Int), D.int IntKind.i64 (0 : Int), D.int IntKind.i64 (0 : Int), D.int IntKind.i64 (0 : Int)]).slice (List.map encIss a.iss))]), (3, T.box [C.d (D.int IntKind.i64 b.rcd), C.d (D.int IntKind.i64 b.pat.start), C.d (D.int IntKind.i64 b.pat.every), C.d (D.int IntKind.i64 b.pat.per), C.d (D.int IntKind.i64 b.pat.first), C.d (encInts b.pat.skip), C.d (encInts b.pat.dbl), C.d (D.int IntKind.i64 b.next), C.d ((D.agg [D.int IntKind.i64 (0 : Int), D.int IntKind.i64 (0 : Int), D.int IntKind.i64 (0 : Int), D.int IntKind.i64 (0 : Int), D.int IntKind.i64 (0 : Int), D.int IntKind.i64 (0 : Int)]).slice (List.map encIss b.iss))]), (5, T.val (D.int IntKind.i64 ↑k)), (6, T.box [C.d (D.int IntKind.i64 (0 : Int)), C.d (D.int IntKind.i64 (0 : Int)), C.d (D.int IntKind.i64 (0 : Int)), C.d (D.int IntKind.i64 (0 : Int)), C.d (D.int IntKind.i64 (0 : Int)), C.d (D.int IntKind.i64 (0 : Int))]), (24, T.val (D.int IntKind.i64 ↑a.iss.length)), (25, T.val (D.int IntKind.i64 ↑k)), (26, T.val (D.bool true)), (32, T.val (D.agg [D.int IntKind.i64 x.vol, D.int IntKind.i64 x.num, D.int IntKind.i64 x.last, D.int IntKind.i64 x.day, D.int IntKind.i64 x.st, D.int IntKind.i64 x.item])), (36, T.val (D.ref [D.int IntKind.i64 y.vol, D.int IntKind.i64 y.num, D.int IntKind.i64 y.last, D.int IntKind.i64 y.day, D.int IntKind.i64 y.st, D.int IntKind.i64 y.item]))] ?_ fun h_1_4_6_10 => ?_
        · skip
          refine coreS.step E_ok [9, 11] (by kernel_rfl) (by simp) ?_
          refine anyS.cons rfl ?_ ?_
          · skip
            simp [encSer_eq, encIsss_eq, encIss_eq, zIss, h26, hy1, hy2, hkb, hx, hxx]
            try simp (disch := omega) only [wrap_i64]
            repeat refine ⟨by first | omega | assumption | (simp only [maxLen]; omega) | (intros; omega) | decide, ?_⟩
            exact contS.mk (by simp [Weak, TW, T.plain, encSer_eq, encIsss_eq, encIss_eq, zIss]) h_1_4_6_9_10 (by kernel_rfl)
          refine anyS.cons rfl ?_ ?_
          · skip
            simp [encSer_eq, encIsss_eq, encIss_eq, zIss, h26, hy1, hy2, hkb, hx, hxx]
            try simp (disch := omega) only [wrap_i64]
            repeat refine ⟨by first | omega | assumption | (simp only [maxLen]; omega) | (intros; omega) | decide, ?_⟩
            exact contS.mk (by simp [Weak, TW, T.plain, encSer_eq, encIsss_eq, encIss_eq, zIss]) h_1_4_6_10_11 (by kernel_rfl)
          exact anyS.nil
        refine contS.cut 4 #[true, true, true, true, true, true, true, true, true, false, false, true, false, false] [(0, T.val (D.agg [D.int IntKind.i64 a.rcd, D.int IntKind.i64 a.pat.start, D.int IntKind.i64 a.pat.every, D.int IntKind.i64 a.pat.per, D.int IntKind.i64 a.pat.first, encInts a.pat.skip, encInts a.pat.dbl, D.int IntKind.i64 a.next, (D.agg [D.int IntKind.i64 (0 : Int), D.int IntKind.i64 (0 : Int), D.int IntKind.i64 (0 : Int), D.int IntKind.i64 (0 : Int), D.int IntKind.i64 (0 : Int), D.int IntKind.i64 (0 : Int)]).slice (List.map encIss a.iss)])), (1, T.val (D.agg [D.int IntKind.i64 b.rcd, D.int IntKind.i64 b.pat.start, D.int IntKind.i64 b.pat.every, D.int IntKind.i64 b.pat.per, D.int IntKind.i64 b.pat.first, encInts b.pat.skip, encInts b.pat.dbl, D.int IntKind.i64 b.next, (D.agg [D.int IntKind.i64 (0 : Int), D.int IntKind.i64 (0 : Int), D.int IntKind.i64 (0 : Int), D.int IntKind.i64 (0 : Int), D.int IntKind.i64 (0 : Int), D.int IntKind.i64 (0 : Int)]).slice (List.map encIss b.iss)])), (2, T.box [C.d (D.int IntKind.i64 a.rcd), C.d (D.int IntKind.i64 a.pat.start), C.d (D.int IntKind.i64 a.pat.every), C.d (D.int IntKind.i64 a.pat.per), C.d (D.int IntKind.i64 a.pat.first), C.d (encInts a.pat.skip), C.d (encInts a.pat.dbl), C.d (D.int IntKind.i64 a.next), C.d ((D.agg [D.int IntKind.i64 (0 : Int), D.int IntKind.i64 (0 : Int), D.int IntKind.i64 (0 : Int), D.int IntKind.i64 (0 : Int), D.int IntKind.i64 (0 : Int), D.int IntKind.i64 (0 : Int)]).slice (List.map encIss a.iss))]), (3, T.box [C.d (D.int IntKind.i64 b.rcd), C.d (D.int IntKind.i64 b.pat.start), C.d (D.int IntKind.i64 b.pat.every), C.d (D.int IntKind.i64 b.pat.per), C.d (D.int IntKind.i64 b.pat.first), C.d (encInts b.pat.skip), C.d (encInts b.pat.dbl), C.d (D.int IntKind.i64 b.next), C.d ((D.agg [D.int IntKind.i64 (0 : Int), D.int IntKind.i64 (0 : Int), D.int IntKind.i64 (0 : Int), D.int IntKind.i64 (0 : Int), D.int IntKind.i64 (0 : Int), D.int IntKind.i64 (0 : Int)]).slice (List.map encIss b.iss))]), (5, T.val (D.int IntKind.i64 ↑k)), (7, T.box [C.d (D.int IntKind.i64 (0 : Int)), C.d (D.int IntKind.i64 (0 : Int)), C.d (D.int IntKind.i64 (0 : Int)), C.d (D.int IntKind.i64 (0 : Int)), C.d (D.int IntKind.i64 (0 : Int)), C.d (D.int IntKind.i64 (0 : Int))]), (24, T.val (D.int IntKind.i64 ↑a.iss.length)), (25, T.val (D.int IntKind.i64 ↑k)), (26, T.val (D.bool true)), (32, T.val (D.agg [D.int IntKind.i64 x.vol, D.int IntKind.i64 x.num, D.int IntKind.i64 x.last, D.int IntKind.i64 x.day, D.int IntKind.i64 x.st, D.int IntKind.i64 x.item])), (36, T.val (D.ref [D.int IntKind.i64 y.vol, D.int IntKind.i64 y.num, D.int IntKind.i64 y.last, D.int IntKind.i64 y.day, D.int IntKind.i64 y.st, D.int IntKind.i64 y.item]))] ?_ fun h_1_4_6_11 => ?_
        · skip
          refine coreS.step E_ok [9, 10] (by kernel_rfl) (by simp) ?_
          refine anyS.cons rfl ?_ ?_
          · skip
            simp [encSer_eq, encIsss_eq, encIss_eq, zIss, h26, hy1, hy2, hkb, hx, hxx]
            try simp (disch := omega) only [wrap_i64]
            repeat refine ⟨by first | omega | assumption | (simp only [maxLen]; omega) | (intros; omega) | decide, ?_⟩
            exact contS.mk (by simp [Weak, TW, T.plain, encSer_eq, encIsss_eq, encIss_eq, zIss]) h_1_4_6_9_11 (by kernel_rfl)
          refine anyS.cons rfl ?_ ?_
          · skip
            simp [encSer_eq, encIsss_eq, encIss_eq, zIss, h26, hy1, hy2, hkb, hx, hxx]
            try simp (disch := omega) only [wrap_i64]
            repeat refine ⟨by first | omega | assumption | (simp only [maxLen]; omega) | (intros; omega) | decide, ?_⟩
            exact contS.mk (by simp [Weak, TW, T.plain, encSer_eq, encIsss_eq, encIss_eq, zIss]) h_1_4_6_10_11 (by kernel_rfl)
          exact anyS.nil
        refine contS.cut 4 #[true, true, true, true, false, true, true, true, true, true, true, false, false, false] [(0, T.val (D.agg [D.int IntKind.i64 a.rcd, D.int IntKind.i64 a.pat.start, D.int IntKind.i64 a.pat.every, D.int IntKind.i64 a.pat.per, D.int IntKind.i64 a.pat.first, encInts a.pat.skip, encInts a.pat.dbl, D.int IntKind.i64 a.next, (D.agg [D.int IntKind.i64 (0 : Int), D.int IntKind.i64 (0 : Int), D.int IntKind.i64 (0 : Int), D.int IntKind.i64 (0 : Int), D.int IntKind.i64 (0 : Int), D.int IntKind.i64 (0 : Int)]).slice (List.map encIss a.iss)])), (1, T.val (D.agg [D.int IntKind.i64 b.rcd, D.int IntKind.i64 b.pat.start, D.int IntKind.i64 b.pat.every, D.int IntKind.i64 b.pat.per, D.int IntKind.i64 b.pat.first, encInts b.pat.skip, encInts b.pat.dbl, D.int IntKind.i64 b.next, (D.agg [D.int IntKind.i64 (0 : Int), D.int IntKind.i64 (0 : Int), D.int IntKind.i64 (0 : Int), D.int IntKind.i64 (0 : Int), D.int IntKind.i64 (0 : Int), D.int IntKind.i64 (0 : Int)]).slice (List.map encIss b.iss)])), (2, T.box [C.d (D.int IntKind.i64 a.rcd), C.d (D.int IntKind.i64 a.pat.start), C.d (D.int IntKind.i64 a.pat.every), C.d (D.int IntKind.i64 a.pat.per), C.d (D.int IntKind.i64 a.pat.first), C.d (encInts a.pat.skip), C.d (encInts a.pat.dbl), C.d (D.int IntKind.i64 a.next), C.d ((D.agg [D.int IntKind.i64 (0 : Int), D.int IntKind.i64 (0 : Int), D.int IntKind.i64 (0 : Int), D.int IntKind.i64 (0 : Int), D.int IntKind.i64 (0 : Int), D.int IntKind.i64 (0 : Int)]).slice (List.map encIss a.iss))]), (3, T.box [C.d (D.int IntKind.i64 b.rcd), C.d (D.int IntKind.i64 b.pat.start), C.d (D.int IntKind.i64 b.pat.every), C.d (D.int IntKind.i64 b.pat.per), C.d (D.int IntKind.i64 b.pat.first), C.d (encInts b.pat.skip), C.d (encInts b.pat.dbl), C.d (D.int IntKind.i64 b.next), C.d ((D.agg [D.int IntKind.i64 (0 : Int), D.int IntKind.i64 (0 : Int), D.int IntKind.i64 (0 : Int), D.int IntKind.i64 (0 : Int), D.int IntKind.i64 (0 : Int), D.int IntKind.i64 (0 : Int)]).slice (List.map encIss b.iss))]), (5, T.val (D.int IntKind.i64 ↑k)), (6, T.box [C.d (D.int IntKind.i64 (0 : Int)), C.d (D.int IntKind.i64 (0 : Int)), C.d (D.int IntKind.i64 (0 : Int)), C.d (D.int IntKind.i64 (0 : Int)), C.d (D.int IntKind.i64 (0 : Int)), C.d (D.int IntKind.i64 (0 : Int))]), (24, T.val (D.int IntKind.i64 ↑a.iss.length)), (25, T.val (D.int IntKind.i64 ↑k)), (26, T.val (D.bool true)), (31, T.val (D.ref [D.int IntKind.i64 x.vol, D.int IntKind.i64 x.num, D.int IntKind.i64 x.last, D.int IntKind.i64 x.day, D.int IntKind.i64 x.st, D.int IntKind.i64 x.item])), (37, T.val (D.agg [D.int IntKind.i64 y.vol, D.int IntKind.i64 y.num, D.int IntKind.i64 y.last, D.int IntKind.i64 y.day, D.int IntKind.i64 y.st, D.int IntKind.i64 y.item]))] ?_ fun h_1_6_9_10 => ?_
        · skip
          refine coreS.step E_ok [4, 11] (by kernel_rfl) (by simp) ?_
          refine anyS.cons rfl ?_ ?_
          · skip
            simp [encSer_eq, encIsss_eq, encIss_eq, zIss, h26, hy1, hy2, hkb, hx, hxx]
            try simp (disch := omega) only [wrap_i64]
            repeat refine ⟨by first | omega | assumption | (simp only [maxLen]; omega) | (intros; omega) | decide, ?_⟩
            exact contS.mk (by simp [Weak, TW, T.plain, encSer_eq, encIsss_eq, encIss_eq, zIss]) h_1_4_6_9_10 (by kernel_rfl)
          refine anyS.cons rfl ?_ ?_
          · skip
            simp [encSer_eq, encIsss_eq, encIss_eq, zIss, h26, hy1, hy2, hkb, hx, hxx]
            try simp (disch := omega) only [wrap_i64]
            repeat refine ⟨by first | omega | assumption | (simp only [maxLen]; omega) | (intros; omega) | decide, ?_⟩
            exact contS.mk (by simp [Weak, TW, T.plain, encSer_eq, encIsss_eq, encIss_eq, zIss]) h_1_6_9_10_11 (by kernel_rfl)
          exact anyS.nil
        refine contS.cut 4 #[true, true, true, true, false, true, true, true, true, true, false, true, false, false] [(0, T.val (D.agg [D.int IntKind.i64 a.rcd, D.int IntKind.i64 a.pat.start, D.int IntKind.i64 a.pat.every, D.int IntKind.i64 a.pat.per, D.int IntKind.i64 a.pat.first, encInts a.pat.skip, encInts a.pat.dbl, D.int IntKind.i64 a.next, (D.agg [D.int IntKind.i64 (0 : Int), D.int IntKind.i64 (0 : Int), D.int IntKind.i64 (0 : Int), D.int IntKind.i64 (0 : Int), D.int IntKind.i64 (0 : Int), D.int IntKind.i64 (0 : Int)]).slice (List.map encIss a.iss)])), (1, T.val (D.agg [D.int IntKind.i64 b.rcd, D.int IntKind.i64 b.pat.start, D.int IntKind.i64 b.pat.every, D.int IntKind.i64 b.pat.per, D.int IntKind.i64 b.pat.first, encInts b.pat.skip, encInts b.pat.dbl, D.int IntKind.i64 b.next, (D.agg [D.int IntKind.i64 (0 : Int), D.int IntKind.i64 (0 : Int), D.int IntKind.i64 (0 : Int), D.int IntKind.i64 (0 : Int), D.int IntKind.i64 (0 : Int), D.int IntKind.i64 (0 : Int)]).slice (List.map encIss b.iss)])), (2, T.box [C.d (D.int IntKind.i64 a.rcd), C.d (D.int IntKind.i64 a.pat.start), C.d (D.int IntKind.i64 a.pat.every), C.d (D.int IntKind.i64 a.pat.per), C.d (D.int IntKind.i64 a.pat.first), C.d (encInts a.pat.skip), C.d (encInts a.pat.dbl), C.d (D.int IntKind.i64 a.next), C.d ((D.agg [D.int IntKind.i64 (0 : Int), D.int IntKind.i64 (0 : Int), D.int IntKind.i64 (0 : Int), D.int IntKind.i64 (0 : Int), D.int IntKind.i64 (0 : Int), D.int IntKind.i64 (0 : Int)]).slice (List.map encIss a.iss))]), (3, T.box [C.d (D.int IntKind.i64 b.rcd), C.d (D.int IntKind.i64 b.pat.start), C.d (D.int IntKind.i64 b.pat.every), C.d (D.int IntKind.i64 b.pat.per), C.d (D.int IntKind.i64 b.pat.first), C.d (encInts b.pat.skip), C.d (encInts b.pat.dbl), C.d (D.int IntKind.i64 b.next), C.d ((D.agg [D.int IntKind.i64 (0 : Int), D.int IntKind.i64 (0 : Int), D.int IntKind.i64 (0 : Int), D.int IntKind.i64 (0 : Int), D.int IntKind.i64 (0 : Int), D.int IntKind.i64 (0 : Int)]).slice (List.map encIss b.iss))]), (5, T.val (D.int IntKind.i64 ↑k)), (7, T.box [C.d (D.int IntKind.i64 (0 : Int)), C.d (D.int IntKind.i64 (0 : Int)), C.d (D.int IntKind.i64 (0 : Int)), C.d (D.int IntKind.i64 (0 : Int)), C.d (D.int IntKind.i64 (0 : Int)), C.d (D.int IntKind.i64 (0 : Int))]), (24, T.val (D.int IntKind.i64 ↑a.iss.length)), (25, T.val (D.int IntKind.i64 ↑k)), (26, T.val (D.bool true)), (31, T.val (D.ref [D.int IntKind.i64 x.vol, D.int IntKind.i64 x.num, D.int IntKind.i64 x.last, D.int IntKind.i64 x.day, D.int IntKind.i64 x.st, D.int IntKind.i64 x.item])), (37, T.val (D.agg [D.int IntKind.i64 y.vol, D.int IntKind.i64 y.num, D.int IntKind.i64 y.last, D.int IntKind.i64 y.day, D.int IntKind.i64 y.st, D.int IntKind.i64 y.item]))] ?_ fun h_1_6_9_11 => ?_
        · skip
          refine coreS.step E_ok [4, 10] (by kernel_rfl) (by simp) ?_
          refine anyS.cons rfl ?_ ?_
          · skip
            simp [encSer_eq, encIsss_eq, encIss_eq, zIss, h26, hy1, hy2, hkb, hx, hxx]
            try simp (disch := omega) only [wrap_i64]
            repeat refine ⟨by first | omega | assumption | (simp only [maxLen]; omega) | (intros; omega) | decide, ?_⟩
            exact contS.mk (by simp [Weak, TW, T.plain, encSer_eq, encIsss_eq, encIss_eq, zIss]) h_1_4_6_9_11 (by kernel_rfl)
          refine anyS.cons rfl ?_ ?_
          · skip
            simp [encSer_eq, encIsss_eq, encIss_eq, zIss, h26, hy1, hy2, hkb, hx, hxx]
            try simp (disch := omega) only [wrap_i64]
            repeat refine ⟨by first | omega | assumption | (simp only [maxLen]; omega) | (intros; omega) | decide, ?_⟩
            exact contS.mk (by simp [Weak, TW, T.plain, encSer_eq, encIsss_eq, encIss_eq, zIss]) h_1_6_9_10_11 (by kernel_rfl)
          exact anyS.nil
        refine contS.cut 4 #[true, true, true, true, false, true, true, true, true, false, true, true, false, false] [(0, T.val (D.agg [D.int IntKind.i64 a.rcd, D.int IntKind.i64 a.pat.start, D.int IntKind.i64 a.pat.every, D.int IntKind.i64 a.pat.per, D.int IntKind.i64 a.pat.first, encInts a.pat.skip, encInts a.pat.dbl, D.int IntKind.i64 a.next, (D.agg [D.int IntKind.i64 (0 : Int), D.int IntKind.i64 (0 : Int), D.int IntKind.i64 (0 : Int), D.int IntKind.i64 (0 : Int), D.int IntKind.i64 (0 : Int), D.int IntKind.i64 (0 : Int)]).slice (List.map encIss a.iss)])), (1, T.val (D.agg [D.int IntKind.i64 b.rcd, D.int IntKind.i64 b.pat.start, D.int IntKind.i64 b.pat.every, D.int IntKind.i64 b.pat.per, D.int IntKind.i64 b.pat.first, encInts b.pat.skip, encInts b.pat.dbl, D.int IntKind.i64 b.next, (D.agg [D.int IntKind.i64 (0 : Int), D.int IntKind.i64 (0 : Int), D.int IntKind.i64 (0 : Int), D.int IntKind.i64 (0 : Int), D.int IntKind.i64 (0 : Int), D.int IntKind.i64 (0 : Int)]).slice (List.map encIss b.iss)])), (2, T.box [C.d (D.int IntKind.i64 a.rcd), C.d (D.int IntKind.i64 a.pat.start), C.d (D.int IntKind.i64 a.pat.every), C.d (D.int IntKind.i64 a.pat.per), C.d (D.int IntKind.i64 a.pat.first), C.d (encInts a.pat.skip), C.d (encInts a.pat.dbl), C.d (D.int IntKind.i64 a.next), C.d ((D.agg [D.int IntKind.i64 (0 : Int), D.int IntKind.i64 (0 : Int), D.int IntKind.i64 (0 : Int), D.int IntKind.i64 (0 : Int), D.int IntKind.i64 (0 : Int), D.int IntKind.i64 (0 : Int)]).slice (List.map encIss a.iss))]), (3, T.box [C.d (D.int IntKind.i64 b.rcd), C.d (D.int IntKind.i64 b.pat.start), C.d (D.int IntKind.i64 b.pat.every), C.d (D.int IntKind.i64 b.pat.per), C.d (D.int IntKind.i64 b.pat.first), C.d (encInts b.pat.skip), C.d (encInts b.pat.dbl), C.d (D.int IntKind.i64 b.next), C.d ((D.agg [D.int IntKind.i64 (0 : Int), D.int IntKind.i64 (0 : Int), D.int IntKind.i64 (0 : Int), D.int IntKind.i64 (0 : Int), D.int IntKind.i64 (0 : Int), D.int IntKind.i64 (0 : Int)]).slice (List.map encIss b.iss))]), (5, T.val (D.int IntKind.i64 ↑k)), (6, T.box [C.d (D.int IntKind.i64 (0 : Int)), C.d (D.int IntKind.i64 (0 : Int)), C.d (D.int IntKind.i64 (0 : Int)), C.d (D.int IntKind.i64 (0 : Int)), C.d (D.int IntKind.i64 (0 : Int)), C.d (D.int IntKind.i64 (0 : Int))]), (7, T.box [C.d (D.int IntKind.i64 (0 : Int)), C.d (D.int IntKind.i64 (0 : Int)), C.d (D.int IntKind.i64 (0 : Int)), C.d (D.int IntKind.i64 (0 : Int)), C.d (D.int IntKind.i64 (0 : Int)), C.d (D.int IntKind.i64 (0 : Int))]), (24, T.val (D.int IntKind.i64 ↑a.iss.length)), (25, T.val (D.int IntKind.i64 ↑k)), (26, T.val (D.bool true)), (31, T.val (D.ref [D.int IntKind.i64 x.vol, D.int IntKind.i64 x.num, D.int IntKind.i64 x.last, D.int IntKind.i64 x.day, D.int IntKind.i64 x.st, D.int IntKind.i64 x.item])), (36, T.val (D.ref [D.int IntKind.i64 y.vol, D.int IntKind.i64 y.num, D.int IntKind.i64 y.last, D.int IntKind.i64 y.day, D.int IntKind.i64 y.st, D.int IntKind.i64 y.item]))] ?_ fun h_1_6_10_11 => ?_
        · skip
          refine coreS.step E_ok [4, 9] (by kernel_rfl) (by simp) ?_
          refine anyS.cons rfl ?_ ?_
          · skip
            simp [encSer_eq, encIsss_eq, encIss_eq, zIss, h26, hy1, hy2, hkb, hx, hxx]
            try simp (disch := omega) only [wrap_i64]
            repeat refine ⟨by first | omega | assumption | (simp only [maxLen]; omega) | (intros; omega) | decide, ?_⟩
            exact contS.mk (by simp [Weak, TW, T.plain, encSer_eq, encIsss_eq, encIss_eq, zIss]) h_1_4_6_10_11 (by kernel_rfl)
          refine anyS.cons rfl ?_ ?_
          · skip
            simp [encSer_eq, encIsss_eq, encIss_eq, zIss, h26, hy1, hy2, hkb, hx, hxx]
            try simp (disch := omega) only [wrap_i64]
            repeat refine ⟨by first | omega | assumption | (simp only [maxLen]; omega) | (intros; omega) | decide, ?_⟩
            exact contS.mk (by simp [Weak, TW, T.plain, encSer_eq, encIsss_eq, encIss_eq, zIss]) h_1_6_9_10_11 (by kernel_rfl)
          exact anyS.nil
        refine contS.cut 4 #[true, true, true, true, true, true, false, true, false, false, true, true, true, false] [(0, T.val (D.agg [D.int IntKind.i64 a.rcd, D.int IntKind.i64 a.pat.start, D.int IntKind.i64 a.pat.every, D.int IntKind.i64 a.pat.per, D.int IntKind.i64 a.pat.first, encInts a.pat.skip, encInts a.pat.dbl, D.int IntKind.i64 a.next, (D.agg [D.int IntKind.i64 (0 : Int), D.int IntKind.i64 (0 : Int), D.int IntKind.i64 (0 : Int), D.int IntKind.i64 (0 : Int), D.int IntKind.i64 (0 : Int), D.int IntKind.i64 (0 : Int)]).slice (List.map encIss a.iss)])), (1, T.val (D.agg [D.int IntKind.i64 b.rcd, D.int IntKind.i64 b.pat.start, D.int IntKind.i64 b.pat.every, D.int IntKind.i64 b.pat.per, D.int IntKind.i64 b.pat.first, encInts b.pat.skip, encInts b.pat.dbl, D.int IntKind.i64 b.next, (D.agg [D.int IntKind.i64 (0 : Int), D.int IntKind.i64 (0 : Int), D.int IntKind.i64 (0 : Int), D.int IntKind.i64 (0 : Int), D.int IntKind.i64 (0 : Int), D.int IntKind.i64 (0 : Int)]).slice (List.map encIss b.iss)])), (2, T.box [C.d (D.int IntKind.i64 a.rcd), C.d (D.int IntKind.i64 a.pat.start), C.d (D.int IntKind.i64 a.pat.every), C.d (D.int IntKind.i64 a.pat.per), C.d (D.int IntKind.i64 a.pat.first), C.d (encInts a.pat.skip), C.d (encInts a.pat.dbl), C.d (D.int IntKind.i64 a.next), C.d ((D.agg [D.int IntKind.i64 (0 : Int), D.int IntKind.i64 (0 : Int), D.int IntKind.i64 (0 : Int), D.int IntKind.i64 (0 : Int), D.int IntKind.i64 (0 : Int), D.int IntKind.i64 (0 : Int)]).slice (List.map encIss a.iss))]), (3, T.box [C.d (D.int IntKind.i64 b.rcd), C.d (D.int IntKind.i64 b.pat.start), C.d (D.int IntKind.i64 b.pat.every), C.d (D.int IntKind.i64 b.pat.per), C.d (D.int IntKind.i64 b.pat.first), C.d (encInts b.pat.skip), C.d (encInts b.pat.dbl), C.d (D.int IntKind.i64 b.next), C.d ((D.agg [D.int IntKind.i64 (0 : Int), D.int IntKind.i64 (0 : Int), D.int IntKind.i64 (0 : Int), D.int IntKind.i64 (0 : Int), D.int IntKind.i64 (0 : Int), D.int IntKind.i64 (0 : Int)]).slice (List.map encIss b.iss))]), (5, T.val (D.int IntKind.i64 ↑k)), (6, T.box [C.d (D.int IntKind.i64 x.vol), C.d (D.int IntKind.i64 x.num), C.d (D.int IntKind.i64 x.last), C.d (D.int IntKind.i64 x.day), C.d (D.int IntKind.i64 x.st), C.d (D.int IntKind.i64 x.item)]), (7, T.box [C.d (D.int IntKind.i64 (0 : Int)), C.d (D.int IntKind.i64 (0 : Int)), C.d (D.int IntKind.i64 (0 : Int)), C.d (D.int IntKind.i64 (0 : Int)), C.d (D.int IntKind.i64 (0 : Int)), C.d (D.int IntKind.i64 (0 : Int))]), (24, T.val (D.int IntKind.i64 ↑a.iss.length)), (25, T.val (D.int IntKind.i64 ↑k)), (26, T.val (D.bool true)), (33, T.ptr 3 8), (35, T.val (D.int IntKind.i64 ↑k))] ?_ fun h_1_4_10_11_12 => ?_
        · skip
          refine coreS.step E_ok [6] (by kernel_rfl) (by simp) ?_
          refine anyS.cons rfl ?_ ?_
          · skip
            simp [encSer_eq, encIsss_eq, encIss_eq, zIss, h26, hy1, hy2, hkb, hx, hxx]
            try simp (disch := omega) only [wrap_i64]
            repeat refine ⟨by first | omega | assumption | (simp only [maxLen]; omega) | (intros; omega) | decide, ?_⟩
            refine contS.now (f' := 3) (l' := #[true, true, true, true, true, true, true, true, false, false, true, true, true, false]) ?_ rfl (by kernel_rfl)
            refine coreS.dry E_ok (by kernel_rfl) 8 rfl rfl (by kernel_rfl) (by kernel_rfl) ?_
            simp [encSer_eq, encIsss_eq, encIss_eq, zIss, h26, hy1, hy2, hkb, hx, hxx]
            try simp (disch := omega) only [wrap_i64]
            repeat refine ⟨by first | omega | assumption | (simp only [maxLen]; omega) | (intros; omega) | decide, ?_⟩
            exact contS.mk (by simp [Weak, TW, T.plain, encSer_eq, encIsss_eq, encIss_eq, zIss]) h_1_4_6_10_11_12 (by kernel_rfl)
          exact anyS.nil
        refine contS.cut 5 #[true, true, true, true, true, true, true, true, true, false, false, false, false, false] [(0, T.val (D.agg [D.int IntKind.i64 a.rcd, D.int IntKind.i64 a.pat.start, D.int IntKind.i64 a.pat.every, D.int IntKind.i64 a.pat.per, D.int IntKind.i64 a.pat.first, encInts a.pat.skip, encInts a.pat.dbl, D.int IntKind.i64 a.next, (D.agg [D.int IntKind.i64 (0 : Int), D.int IntKind.i64 (0 : Int), D.int IntKind.i64 (0 : Int), D.int IntKind.i64 (0 : Int), D.int IntKind.i64 (0 : Int), D.int IntKind.i64 (0 : Int)]).slice (List.map encIss a.iss)])), (1, T.val (D.agg [D.int IntKind.i64 b.rcd, D.int IntKind.i64 b.pat.start, D.int IntKind.i64 b.pat.every, D.int IntKind.i64 b.pat.per, D.int IntKind.i64 b.pat.first, encInts b.pat.skip, encInts b.pat.dbl, D.int IntKind.i64 b.next, (D.agg [D.int IntKind.i64 (0 : Int), D.int IntKind.i64 (0 : Int), D.int IntKind.i64 (0 : Int), D.int IntKind.i64 (0 : Int), D.int IntKind.i64 (0 : Int), D.int IntKind.i64 (0 : Int)]).slice (List.map encIss b.iss)])), (2, T.box [C.d (D.int IntKind.i64 a.rcd), C.d (D.int IntKind.i64 a.pat.start), C.d (D.int IntKind.i64 a.pat.every), C.d (D.int IntKind.i64 a.pat.per), C.d (D.int IntKind.i64 a.pat.first), C.d (encInts a.pat.skip), C.d (encInts a.pat.dbl), C.d (D.int IntKind.i64 a.next), C.d ((D.agg [D.int IntKind.i64 (0 : Int), D.int IntKind.i64 (0 : Int), D.int IntKind.i64 (0 : Int), D.int IntKind.i64 (0 : Int), D.int IntKind.i64 (0 : Int), D.int IntKind.i64 (0 : Int)]).slice (List.map encIss a.iss))]), (3, T.box [C.d (D.int IntKind.i64 b.rcd), C.d (D.int IntKind.i64 b.pat.start), C.d (D.int IntKind.i64 b.pat.every), C.d (D.int IntKind.i64 b.pat.per), C.d (D.int IntKind.i64 b.pat.first), C.d (encInts b.pat.skip), C.d (encInts b.pat.dbl), C.d (D.int IntKind.i64 b.next), C.d ((D.agg [D.int IntKind.i64 (0 : Int), D.int IntKind.i64 (0 : Int), D.int IntKind.i64 (0 : Int), D.int IntKind.i64 (0 : Int), D.int IntKind.i64 (0 : Int), D.int IntKind.i64 (0 : Int)]).slice (List.map encIss b.iss))]), (5, T.val (D.int IntKind.i64 ↑k)), (24, T.val (D.int IntKind.i64 ↑a.iss.length)), (25, T.val (D.int IntKind.i64 ↑k)), (26, T.val (D.bool true)), (32, T.val (D.agg [D.int IntKind.i64 x.vol, D.int IntKind.i64 x.num, D.int IntKind.i64 x.last, D.int IntKind.i64 x.day, D.int IntKind.i64 x.st, D.int IntKind.i64 x.item])), (36, T.val (D.ref [D.int IntKind.i64 y.vol, D.int IntKind.i64 y.num, D.int IntKind.i64 y.last, D.int IntKind.i64 y.day, D.int IntKind.i64 y.st, D.int IntKind.i64 y.item]))] ?_ fun h_1_4_6 => ?_
        · skip
          refine coreS.step E_ok [9, 10, 11] (by kernel_rfl) (by simp) ?_
          refine anyS.cons rfl ?_ ?_
          · skip
            simp [encSer_eq, encIsss_eq, encIss_eq, zIss, h26, hy1, hy2, hkb, hx, hxx]
            try simp (disch := omega) only [wrap_i64]
            repeat refine ⟨by first | omega | assumption | (simp only [maxLen]; omega) | (intros; omega) | decide, ?_⟩
            exact contS.mk (by simp [Weak, TW, T.plain, encSer_eq, encIsss_eq, encIss_eq, zIss]) h_1_4_6_9 (by kernel_rfl)
          refine anyS.cons rfl ?_ ?_
          · skip
            simp [encSer_eq, encIsss_eq, encIss_eq, zIss, h26, hy1, hy2, hkb, hx, hxx]
            try simp (disch := omega) only [wrap_i64]
            repeat refine ⟨by first | omega | assumption | (simp only [maxLen]; omega) | (intros; omega) | decide, ?_⟩
            exact contS.mk (by simp [Weak, TW, T.plain, encSer_eq, encIsss_eq, encIss_eq, zIss]) h_1_4_6_10 (by kernel_rfl)
          refine anyS.cons rfl ?_ ?_
          · skip
            simp [encSer_eq, encIsss_eq, encIss_eq, zIss, h26, hy1, hy2, hkb, hx, hxx]
            try simp (disch := omega) only [wrap_i64]
            repeat refine ⟨by first | omega | assumption | (simp only [maxLen]; omega) | (intros; omega) | decide, ?_⟩
            exact contS.mk (by simp [Weak, TW, T.plain, encSer_eq, encIsss_eq, encIss_eq, zIss]) h_1_4_6_11 (by kernel_rfl)
          exact anyS.nil
        refine contS.cut 5 #[true, true, true, true, false, true, true, true, true, true, false, false, false, false] [(0, T.val (D.agg [D.int IntKind.i64 a.rcd, D.int IntKind.i64 a.pat.start, D.int IntKind.i64 a.pat.every, D.int IntKind.i64 a.pat.per, D.int IntKind.i64 a.pat.first, encInts a.pat.skip, encInts a.pat.dbl, D.int IntKind.i64 a.next, (D.agg [D.int IntKind.i64 (0 : Int), D.int IntKind.i64 (0 : Int), D.int IntKind.i64 (0 : Int), D.int IntKind.i64 (0 : Int), D.int IntKind.i64 (0 : Int), D.int IntKind.i64 (0 : Int)]).slice (List.map encIss a.iss)])), (1, T.val (D.agg [D.int IntKind.i64 b.rcd, D.int IntKind.i64 b.pat.start, D.int IntKind.i64 b.pat.every, D.int IntKind.i64 b.pat.per, D.int IntKind.i64 b.pat.first, encInts b.pat.skip, encInts b.pat.dbl, D.int IntKind.i64 b.next, (D.agg [D.int IntKind.i64 (0 : Int), D.int IntKind.i64 (0 : Int), D.int IntKind.i64 (0 : Int), D.int IntKind.i64 (0 : Int), D.int IntKind.i64 (0 : Int), D.int IntKind.i64 (0 : Int)]).slice (List.map encIss b.iss)])), (2, T.box [C.d (D.int IntKind.i64 a.rcd), C.d (D.int IntKind.i64 a.pat.start), C.d (D.int IntKind.i64 a.pat.every), C.d (D.int IntKind.i64 a.pat.per), C.d (D.int IntKind.i64 a.pat.first), C.d (encInts a.pat.skip), C.d (encInts a.pat.dbl), C.d (D.int IntKind.i64 a.next), C.d ((D.agg [D.int IntKind.i64 (0 : Int), D.int IntKind.i64 (0 : Int), D.int IntKind.i64 (0 : Int), D.int IntKind.i64 (0 : Int), D.int IntKind.i64 (0 : Int), D.int IntKind.i64 (0 : Int)]).slice (List.map encIss a.iss))]), (3, T.box [C.d (D.int IntKind.i64 b.rcd), C.d (D.int IntKind.i64 b.pat.start), C.d (D.int IntKind.i64 b.pat.every), C.d (D.int IntKind.i64 b.pat.per), C.d (D.int IntKind.i64 b.pat.first), C.d (encInts b.pat.skip), C.d (encInts b.pat.dbl), C.d (D.int IntKind.i64 b.next), C.d ((D.agg [D.int IntKind.i64 (0 : Int), D.int IntKind.i64 (0 : Int), D.int IntKind.i64 (0 : Int), D.int IntKind.i64 (0 : Int), D.int IntKind.i64 (0 : Int), D.int IntKind.i64 (0 : Int)]).slice (List.map encIss b.iss))]), (5, T.val (D.int IntKind.i64 ↑k)), (24, T.val (D.int IntKind.i64 ↑a.iss.length)), (25, T.val (D.int IntKind.i64 ↑k)), (26, T.val (D.bool true)), (31, T.val (D.ref [D.int IntKind.i64 x.vol, D.int IntKind.i64 x.num, D.int IntKind.i64 x.last, D.int IntKind.i64 x.day, D.int IntKind.i64 x.st, D.int IntKind.i64 x.item])), (37, T.val (D.agg [D.int IntKind.i64 y.vol, D.int IntKind.i64 y.num, D.int IntKind.i64 y.last, D.int IntKind.i64 y.day, D.int IntKind.i64 y.st, D.int IntKind.i64 y.item]))] ?_ fun h_1_6_9 => ?_
        · skip
          refine coreS.step E_ok [4, 10, 11] (by kernel_rfl) (by simp) ?_
          refine anyS.cons rfl ?_ ?_
          · skip
            simp [encSer_eq, encIsss_eq, encIss_eq, zIss, h26, hy1, hy2, hkb, hx, hxx]
            try simp (disch := omega) only [wrap_i64]
            repeat refine ⟨by first | omega | assumption | (simp only [maxLen]; omega) | (intros; omega) | decide, ?_⟩
            exact contS.mk (by simp [Weak, TW, T.plain, encSer_eq, encIsss_eq, encIss_eq, zIss]) h_1_4_6_9 (by kernel_rfl)
          refine anyS.cons rfl ?_ ?_
          · skip
            simp [encSer_eq, encIsss_eq, encIss_eq, zIss, h26, hy1, hy2, hkb, hx, hxx]
            try simp (disch := omega) only [wrap_i64]
            repeat refine ⟨by first | omega | assumption | (simp only [maxLen]; omega) | (intros; omega) | decide, ?_⟩
            exact contS.mk (by simp [Weak, TW, T.plain, encSer_eq, encIsss_eq, encIss_eq, zIss]) h_1_6_9_10 (by kernel_rfl)
          refine anyS.cons rfl ?_ ?_
          · skip
            simp [encSer_eq, encIsss_eq, encIss_eq, zIss, h26, hy1, hy2, hkb, hx, hxx]
            try simp (disch := omega) only [wrap_i64]
            repeat refine ⟨by first | omega | assumption | (simp only [maxLen]; omega) | (intros; omega) | decide, ?_⟩
            exact contS.mk (by simp [Weak, TW, T.plain, encSer_eq, encIsss_eq, encIss_eq, zIss]) h_1_6_9_11 (by kernel_rfl)
          exact anyS.nil
        refine contS.cut 5 #[true, true, true, true, false, true, true, true, true, false, true, false, false, false] [(0, T.val (D.agg [D.int IntKind.i64 a.rcd, D.int IntKind.i64 a.pat.start, D.int IntKind.i64 a.pat.every, D.int IntKind.i64 a.pat.per, D.int IntKind.i64 a.pat.first, encInts a.pat.skip, encInts a.pat.dbl, D.int IntKind.i64 a.next, (D.agg [D.int IntKind.i64 (0 : Int), D.int IntKind.i64 (0 : Int), D.int IntKind.i64 (0 : Int), D.int IntKind.i64 (0 : Int), D.int IntKind.i64 (0 : Int), D.int IntKind.i64 (0 : Int)]).slice (List.map encIss a.iss)])), (1, T.val (D.agg [D.int IntKind.i64 b.rcd, D.int IntKind.i64 b.pat.start, D.int IntKind.i64 b.pat.every, D.int IntKind.i64 b.pat.per, D.int IntKind.i64 b.pat.first, encInts b.pat.skip, encInts b.pat.dbl, D.int IntKind.i64 b.next, (D.agg [D.int IntKind.i64 (0 : Int), D.int IntKind.i64 (0 : Int), D.int IntKind.i64 (0 : Int), D.int IntKind.i64 (0 : Int), D.int IntKind.i64 (0 : Int), D.int IntKind.i64 (0 : Int)]).slice (List.map encIss b.iss)])), (2, T.box [C.d (D.int IntKind.i64 a.rcd), C.d (D.int IntKind.i64 a.pat.start), C.d (D.int IntKind.i64 a.pat.every), C.d (D.int IntKind.i64 a.pat.per), C.d (D.int IntKind.i64 a.pat.first), C.d (encInts a.pat.skip), C.d (encInts a.pat.dbl), C.d (D.int IntKind.i64 a.next), C.d ((D.agg [D.int IntKind.i64 (0 : Int), D.int IntKind.i64 (0 : Int), D.int IntKind.i64 (0 : Int), D.int IntKind.i64 (0 : Int), D.int IntKind.i64 (0 : Int), D.int IntKind.i64 (0 : Int)]).slice (List.map encIss a.iss))]), (3, T.box [C.d (D.int IntKind.i64 b.rcd), C.d (D.int IntKind.i64 b.pat.start), C.d (D.int IntKind.i64 b.pat.every), C.d (D.int IntKind.i64 b.pat.per), C.d (D.int IntKind.i64 b.pat.first), C.d (encInts b.pat.skip), C.d (encInts b.pat.dbl), C.d (D.int IntKind.i64 b.next), C.d ((D.agg [D.int IntKind.i64 (0 : Int), D.int IntKind.i64 (0 : Int), D.int IntKind.i64 (0 : Int), D.int IntKind.i64 (0 : Int), D.int IntKind.i64 (0 : Int), D.int IntKind.i64 (0 : Int)]).slice (List.map encIss b.iss))]), (5, T.val (D.int IntKind.i64 ↑k)), (6, T.box [C.d (D.int IntKind.i64 (0 : Int)), C.d (D.int IntKind.i64 (0 : Int)), C.d (D.int IntKind.i64 (0 : Int)), C.d (D.int IntKind.i64 (0 : Int)), C.d (D.int IntKind.i64 (0 : Int)), C.d (D.int IntKind.i64 (0 : Int))]), (24, T.val (D.int IntKind.i64 ↑a.iss.length)), (25, T.val (D.int IntKind.i64 ↑k)), (26, T.val (D.bool true)), (31, T.val (D.ref [D.int IntKind.i64 x.vol, D.int IntKind.i64 x.num, D.int IntKind.i64 x.last, D.int IntKind.i64 x.day, D.int IntKind.i64 x.st, D.int IntKind.i64 x.item])), (36, T.val (D.ref [D.int IntKind.i64 y.vol, D.int IntKind.i64 y.num, D.int IntKind.i64 y.last, D.int IntKind.i64 y.day, D.int IntKind.i64 y.st, D.int IntKind.i64 y.item]))] ?_ fun h_1_6_10 => ?_
        · skip
          refine coreS.step E_ok [4, 9, 11] (by kernel_rfl) (by simp) ?_
          refine anyS.cons rfl ?_ ?_
          · skip
            simp [encSer_eq, encIsss_eq, encIss_eq, zIss, h26, hy1, hy2, hkb, hx, hxx]
            try simp (disch := omega) only [wrap_i64]
            repeat refine ⟨by first | omega | assumption | (simp only [maxLen]; omega) | (intros; omega) | decide, ?_⟩
            exact contS.mk (by simp [Weak, TW, T.plain, encSer_eq, encIsss_eq, encIss_eq, zIss]) h_1_4_6_10 (by kernel_rfl)
          refine anyS.cons rfl ?_ ?_
          · skip
            simp [encSer_eq, encIsss_eq, encIss_eq, zIss, h26, hy1, hy2, hkb, hx, hxx]
            try simp (disch := omega) only [wrap_i64]
            repeat refine ⟨by first | omega | assumption | (simp only [maxLen]; omega) | (intros; omega) | decide, ?_⟩
            exact contS.mk (by simp [Weak, TW, T.plain, encSer_eq, encIsss_eq, encIss_eq, zIss]) h_1_6_9_10 (by kernel_rfl)
          refine anyS.cons rfl ?_ ?_
          · skip
            simp [encSer_eq, encIsss_eq, encIss_eq, zIss, h26, hy1, hy2, hkb, hx, hxx]
            try simp (disch := omega) only [wrap_i64]
            repeat refine ⟨by first | omega | assumption | (simp only [maxLen]; omega) | (intros; omega) | decide, ?_⟩
            exact contS.mk (by simp [Weak, TW, T.plain, encSer_eq, encIsss_eq, encIss_eq, zIss]) h_1_6_10_11 (by kernel_rfl)
          exact anyS.nil
        refine contS.cut 5 #[true, true, true, true, false, true, true, true, true, false, false, true, false, false] [(0, T.val (D.agg [D.int IntKind.i64 a.rcd, D.int IntKind.i64 a.pat.start, D.int IntKind.i64 a.pat.every, D.int IntKind.i64 a.pat.per, D.int IntKind.i64 a.pat.first, encInts a.pat.skip, encInts a.pat.dbl, D.int IntKind.i64 a.next, (D.agg [D.int IntKind.i64 (0 : Int), D.int IntKind.i64 (0 : Int), D.int IntKind.i64 (0 : Int), D.int IntKind.i64 (0 : Int), D.int IntKind.i64 (0 : Int), D.int IntKind.i64 (0 : Int)]).slice (List.map encIss a.iss)])), (1, T.val (D.agg [D.int IntKind.i64 b.rcd, D.int IntKind.i64 b.pat.start, D.int IntKind.i64 b.pat.every, D.int IntKind.i64 b.pat.per, D.int IntKind.i64 b.pat.first, encInts b.pat.skip, encInts b.pat.dbl, D.int IntKind.i64 b.next, (D.agg [D.int IntKind.i64 (0 : Int), D.int IntKind.i64 (0 : Int), D.int IntKind.i64 (0 : Int), D.int IntKind.i64 (0 : Int), D.int IntKind.i64 (0 : Int), D.int IntKind.i64 (0 : Int)]).slice (List.map encIss b.iss)])), (2, T.box [C.d (D.int IntKind.i64 a.rcd), C.d (D.int IntKind.i64 a.pat.start), C.d (D.int IntKind.i64 a.pat.every), C.d (D.int IntKind.i64 a.pat.per), C.d (D.int IntKind.i64 a.pat.first), C.d (encInts a.pat.skip), C.d (encInts a.pat.dbl), C.d (D.int IntKind.i64 a.next), C.d ((D.agg [D.int IntKind.i64 (0 : Int), D.int IntKind.i64 (0 : Int), D.int IntKind.i64 (0 : Int), D.int IntKind.i64 (0 : Int), D.int IntKind.i64 (0 : Int), D.int IntKind.i64 (0 : Int)]).slice (List.map encIss a.iss))]), (3, T.box [C.d (D.int IntKind.i64 b.rcd), C.d (D.int IntKind.i64 b.pat.start), C.d (D.int IntKind.i64 b.pat.every), C.d (D.int IntKind.i64 b.pat.per), C.d (D.int IntKind.i64 b.pat.first), C.d (encInts b.pat.skip), C.d (encInts b.pat.dbl), C.d (D.int IntKind.i64 b.next), C.d ((D.agg [D.int IntKind.i64 (0 : Int), D.int IntKind.i64 (0 : Int), D.int IntKind.i64 (0 : Int), D.int IntKind.i64 (0 : Int), D.int IntKind.i64 (0 : Int), D.int IntKind.i64 (0 : Int)]).slice (List.map encIss b.iss))]), (5, T.val (D.int IntKind.i64 ↑k)), (7, T.box [C.d (D.int IntKind.i64 (0 : Int)), C.d (D.int IntKind.i64 (0 : Int)), C.d (D.int IntKind.i64 (0 : Int)), C.d (D.int IntKind.i64 (0 : Int)), C.d (D.int IntKind.i64 (0 : Int)), C.d (D.int IntKind.i64 (0 : Int))]), (24, T.val (D.int IntKind.i64 ↑a.iss.length)), (25, T.val (D.int IntKind.i64 ↑k)), (26, T.val (D.bool true)), (31, T.val (D.ref [D.int IntKind.i64 x.vol, D.int IntKind.i64 x.num, D.int IntKind.i64 x.last, D.int IntKind.i64 x.day, D.int IntKind.i64 x.st, D.int IntKind.i64 x.item])), (36, T.val (D.ref [D.int IntKind.i64 y.vol, D.int IntKind.i64 y.num, D.int IntKind.i64 y.last, D.int IntKind.i64 y.day, D.int IntKind.i64 y.st, D.int IntKind.i64 y.item]))] ?_ fun h_1_6_11 => ?_
        · skip
          refine coreS.step E_ok [4, 9, 10] (by kernel_rfl) (by simp) ?_
          refine anyS.cons rfl ?_ ?_
          · skip
            simp [encSer_eq, encIsss_eq, encIss_eq, zIss, h26, hy1, hy2, hkb, hx, hxx]
            try simp (disch := omega) only [wrap_i64]
            repeat refine ⟨by first | omega | assumption | (simp only [maxLen]; omega) | (intros; omega) | decide, ?_⟩
            exact contS.mk (by simp [Weak, TW, T.plain, encSer_eq, encIsss_eq, encIss_eq, zIss]) h_1_4_6_11 (by kernel_rfl)
          refine anyS.cons rfl ?_ ?_
          · skip
            simp [encSer_eq, encIsss_eq, encIss_eq, zIss, h26, hy1, hy2, hkb, hx, hxx]
            try simp (disch := omega) only [wrap_i64]
            repeat refine ⟨by first | omega | assumption | (simp only [maxLen]; omega) | (intros; omega) | decide, ?_⟩
            exact contS.mk (by simp [Weak, TW, T.plain, encSer_eq, encIsss_eq, encIss_eq, zIss]) h_1_6_9_11 (by kernel_rfl)
          refine anyS.cons rfl ?_ ?_
          · skip
            simp [encSer_eq, encIsss_eq, encIss_eq, zIss, h26, hy1, hy2, hkb, hx, hxx]
            try simp (disch := omega) only [wrap_i64]
            repeat refine ⟨by first | omega | assumption | (simp only [maxLen]; omega) | (intros; omega) | decide, ?_⟩
            exact contS.mk (by simp [Weak, TW, T.plain, encSer_eq, encIsss_eq, encIss_eq, zIss]) h_1_6_10_11 (by kernel_rfl)
          exact anyS.nil
        refine contS.cut 5 #[true, true, true, true, true, true, false, true, false, false, true, true, false, false] [(0, T.val (D.agg [D.int IntKind.i64 a.rcd, D.int IntKind.i64 a.pat.start, D.int IntKind.i64 a.pat.every, D.int IntKind.i64 a.pat.per, D.int IntKind.i64 a.pat.first, encInts a.pat.skip, encInts a.pat.dbl, D.int IntKind.i64 a.next, (D.agg [D.int IntKind.i64 (0 : Int), D.int IntKind.i64 (0 : Int), D.int IntKind.i64 (0 : Int), D.int IntKind.i64 (0 : Int), D.int IntKind.i64 (0 : Int), D.int IntKind.i64 (0 : Int)]).slice (List.map encIss a.iss)])), (1, T.val (D.agg [D.int IntKind.i64 b.rcd, D.int IntKind.i64 b.pat.start, D.int IntKind.i64 b.pat.every, D.int IntKind.i64 b.pat.per, D.int IntKind.i64 b.pat.first, encInts b.pat.skip, encInts b.pat.dbl, D.int IntKind.i64 b.next, (D.agg [D.int IntKind.i64 (0 : Int), D.int IntKind.i64 (0 : Int), D.int IntKind.i64 (0 : Int), D.int IntKind.i64 (0 : Int), D.int IntKind.i64 (0 : Int), D.int IntKind.i64 (0 : Int)]).slice (List.map encIss b.iss)])), (2, T.box [C.d (D.int IntKind.i64 a.rcd), C.d (D.int IntKind.i64 a.pat.start), C.d (D.int IntKind.i64 a.pat.every), C.d (D.int IntKind.i64 a.pat.per), C.d (D.int IntKind.i64 a.pat.first), C.d (encInts a.pat.skip), C.d (encInts a.pat.dbl), C.d (D.int IntKind.i64 a.next), C.d ((D.agg [D.int IntKind.i64 (0 : Int), D.int IntKind.i64 (0 : Int), D.int IntKind.i64 (0 : Int), D.int IntKind.i64 (0 : Int), D.int IntKind.i64 (0 : Int), D.int IntKind.i64 (0 : Int)]).slice (List.map encIss a.iss))]), (3, T.box [C.d (D.int IntKind.i64 b.rcd), C.d (D.int IntKind.i64 b.pat.start), C.d (D.int IntKind.i64 b.pat.every), C.d (D.int IntKind.i64 b.pat.per), C.d (D.int IntKind.i64 b.pat.first), C.d (encInts b.pat.skip), C.d (encInts b.pat.dbl), C.d (D.int IntKind.i64 b.next), C.d ((D.agg [D.int IntKind.i64 (0 : Int), D.int IntKind.i64 (0 : Int), D.int IntKind.i64 (0 : Int), D.int IntKind.i64 (0 : Int), D.int IntKind.i64 (0 : Int), D.int IntKind.i64 (0 : Int)]).slice (List.map encIss b.iss))]), (5, T.val (D.int IntKind.i64 ↑k)), (6, T.box [C.d (D.int IntKind.i64 (0 : Int)), C.d (D.int IntKind.i64 (0 : Int)), C.d (D.int IntKind.i64 (0 : Int)), C.d (D.int IntKind.i64 (0 : Int)), C.d (D.int IntKind.i64 (0 : Int)), C.d (D.int IntKind.i64 (0 : Int))]), (7, T.box [C.d (D.int IntKind.i64 (0 : Int)), C.d (D.int IntKind.i64 (0 : Int)), C.d (D.int IntKind.i64 (0 : Int)), C.d (D.int IntKind.i64 (0 : Int)), C.d (D.int IntKind.i64 (0 : Int)), C.d (D.int IntKind.i64 (0 : Int))]), (24, T.val (D.int IntKind.i64 ↑a.iss.length)), (25, T.val (D.int IntKind.i64 ↑k)), (26, T.val (D.bool true)), (32, T.val (D.agg [D.int IntKind.i64 x.vol, D.int IntKind.i64 x.num, D.int IntKind.i64 x.last, D.int IntKind.i64 x.day, D.int IntKind.i64 x.st, D.int IntKind.i64 x.item])), (33, T.ptr 3 8), (35, T.val (D.int IntKind.i64 ↑k))] ?_ fun h_1_4_10_11 => ?_
        · skip
          refine coreS.step E_ok [6, 12] (by kernel_rfl) (by simp) ?_
          refine anyS.cons rfl ?_ ?_
          · skip
            simp [encSer_eq, encIsss_eq, encIss_eq, zIss, h26, hy1, hy2, hkb, hx, hxx]
            try simp (disch := omega) only [wrap_i64]
            repeat refine ⟨by first | omega | assumption | (simp only [maxLen]; omega) | (intros; omega) | decide, ?_⟩
            refine contS.now (f' := 4) (l' := #[true, true, true, true, true, true, true, true, false, false, true, true, false, false]) ?_ rfl (by kernel_rfl)
            refine coreS.dry E_ok (by kernel_rfl) 8 rfl rfl (by kernel_rfl) (by kernel_rfl) ?_
            simp [encSer_eq, encIsss_eq, encIss_eq, zIss, h26, hy1, hy2, hkb, hx, hxx]
            try simp (disch := omega) only [wrap_i64]
            repeat refine ⟨by first | omega | assumption | (simp only [maxLen]; omega) | (intros; omega) | decide, ?_⟩
            exact contS.mk (by simp [Weak, TW, T.plain, encSer_eq, encIsss_eq, encIss_eq, zIss]) h_1_4_6_10_11 (by kernel_rfl)
          refine anyS.cons rfl ?_ ?_
          · skip
            simp [encSer_eq, encIsss_eq, encIss_eq, zIss, h26, hy1, hy2, hkb, hx, hxx]
            try simp (disch := omega) only [wrap_i64]
            repeat refine ⟨by first | omega | assumption | (simp only [maxLen]; omega) | (intros; omega) | decide, ?_⟩
            exact contS.mk (by simp [Weak, TW, T.plain, encSer_eq, encIsss_eq, encIss_eq, zIss]) h_1_4_10_11_12 (by kernel_rfl)
          exact anyS.nil
        refine contS.cut 5 #[true, false, true, false, false, true, true, true, true, true, true, true, false, false] [(0, T.val (D.agg [D.int IntKind.i64 a.rcd, D.int IntKind.i64 a.pat.start, D.int IntKind.i64 a.pat.every, D.int IntKind.i64 a.pat.per, D.int IntKind.i64 a.pat.first, encInts a.pat.skip, encInts a.pat.dbl, D.int IntKind.i64 a.next, (D.agg [D.int IntKind.i64 (0 : Int), D.int IntKind.i64 (0 : Int), D.int IntKind.i64 (0 : Int), D.int IntKind.i64 (0 : Int), D.int IntKind.i64 (0 : Int), D.int IntKind.i64 (0 : Int)]).slice (List.map encIss a.iss)])), (1, T.val (D.agg [D.int IntKind.i64 b.rcd, D.int IntKind.i64 b.pat.start, D.int IntKind.i64 b.pat.every, D.int IntKind.i64 b.pat.per, D.int IntKind.i64 b.pat.first, encInts b.pat.skip, encInts b.pat.dbl, D.int IntKind.i64 b.next, (D.agg [D.int IntKind.i64 (0 : Int), D.int IntKind.i64 (0 : Int), D.int IntKind.i64 (0 : Int), D.int IntKind.i64 (0 : Int), D.int IntKind.i64 (0 : Int), D.int IntKind.i64 (0 : Int)]).slice (List.map encIss b.iss)])), (2, T.box [C.d (D.int IntKind.i64 a.rcd), C.d (D.int IntKind.i64 a.pat.start), C.d (D.int IntKind.i64 a.pat.every), C.d (D.int IntKind.i64 a.pat.per), C.d (D.int IntKind.i64 a.pat.first), C.d (encInts a.pat.skip), C.d (encInts a.pat.dbl), C.d (D.int IntKind.i64 a.next), C.d ((D.agg [D.int IntKind.i64 (0 : Int), D.int IntKind.i64 (0 : Int), D.int IntKind.i64 (0 : Int), D.int IntKind.i64 (0 : Int), D.int IntKind.i64 (0 : Int), D.int IntKind.i64 (0 : Int)]).slice (List.map encIss a.iss))]), (3, T.box [C.d (D.int IntKind.i64 b.rcd), C.d (D.int IntKind.i64 b.pat.start), C.d (D.int IntKind.i64 b.pat.every), C.d (D.int IntKind.i64 b.pat.per), C.d (D.int IntKind.i64 b.pat.first), C.d (encInts b.pat.skip), C.d (encInts b.pat.dbl), C.d (D.int IntKind.i64 b.next), C.d ((D.agg [D.int IntKind.i64 (0 : Int), D.int IntKind.i64 (0 : Int), D.int IntKind.i64 (0 : Int), D.int IntKind.i64 (0 : Int), D.int IntKind.i64 (0 : Int), D.int IntKind.i64 (0 : Int)]).slice (List.map encIss b.iss))]), (5, T.val (D.int IntKind.i64 ↑k)), (6, T.box [C.d (D.int IntKind.i64 (0 : Int)), C.d (D.int IntKind.i64 (0 : Int)), C.d (D.int IntKind.i64 (0 : Int)), C.d (D.int IntKind.i64 (0 : Int)), C.d (D.int IntKind.i64 (0 : Int)), C.d (D.int IntKind.i64 (0 : Int))]), (7, T.box [C.d (D.int IntKind.i64 (0 : Int)), C.d (D.int IntKind.i64 (0 : Int)), C.d (D.int IntKind.i64 (0 : Int)), C.d (D.int IntKind.i64 (0 : Int)), C.d (D.int IntKind.i64 (0 : Int)), C.d (D.int IntKind.i64 (0 : Int))]), (24, T.val (D.int IntKind.i64 ↑a.iss.length)), (25, T.val (D.int IntKind.i64 ↑k)), (26, T.val (D.bool true)), (28, T.ptr 2 8), (30, T.val (D.int IntKind.i64 ↑k)), (37, T.val (D.agg [D.int IntKind.i64 y.vol, D.int IntKind.i64 y.num, D.int IntKind.i64 y.last, D.int IntKind.i64 y.day, D.int IntKind.i64 y.st, D.int IntKind.i64 y.item]))] ?_ fun h_6_9_10_11 => ?_
        · skip
          refine coreS.step E_ok [1] (by kernel_rfl) (by simp) ?_
          refine anyS.cons rfl ?_ ?_
          · skip
            simp [encSer_eq, encIsss_eq, encIss_eq, zIss, h26, hy1, hy2, hkb, hx, hxx]
            try simp (disch := omega) only [wrap_i64]
            repeat refine ⟨by first | omega | assumption | (simp only [maxLen]; omega) | (intros; omega) | decide, ?_⟩
            refine contS.now (f' := 4) (l' := #[true, true, true, false, false, true, true, true, true, true, true, true, false, false]) ?_ rfl (by kernel_rfl)
            refine coreS.dry E_ok (by kernel_rfl) 3 rfl rfl (by kernel_rfl) (by kernel_rfl) ?_
            simp [encSer_eq, encIsss_eq, encIss_eq, zIss, h26, hy1, hy2, hkb, hx, hxx]
            try simp (disch := omega) only [wrap_i64]
            repeat refine ⟨by first | omega | assumption | (simp only [maxLen]; omega) | (intros; omega) | decide, ?_⟩
            exact contS.mk (by simp [Weak, TW, T.plain, encSer_eq, encIsss_eq, encIss_eq, zIss]) h_1_6_9_10_11 (by kernel_rfl)
          exact anyS.nil
        refine contS.cut 6 #[true, true, true, true, false, true, true, true, true, false, false, false, false, false] [(0, T.val (D.agg [D.int IntKind.i64 a.rcd, D.int IntKind.i64 a.pat.start, D.int IntKind.i64 a.pat.every, D.int IntKind.i64 a.pat.per, D.int IntKind.i64 a.pat.first, encInts a.pat.skip, encInts a.pat.dbl, D.int IntKind.i64 a.next, (D.agg [D.int IntKind.i64 (0 : Int), D.int IntKind.i64 (0 : Int), D.int IntKind.i64 (0 : Int), D.int IntKind.i64 (0 : Int), D.int IntKind.i64 (0 : Int), D.int IntKind.i64 (0 : Int)]).slice (List.map encIss a.iss)])), (1, T.val (D.agg [D.int IntKind.i64 b.rcd, D.int IntKind.i64 b.pat.start, D.int IntKind.i64 b.pat.every, D.int IntKind.i64 b.pat.per, D.int IntKind.i64 b.pat.first, encInts b.pat.skip, encInts b.pat.dbl, D.int IntKind.i64 b.next, (D.agg [D.int IntKind.i64 (0 : Int), D.int IntKind.i64 (0 : Int), D.int IntKind.i64 (0 : Int), D.int IntKind.i64 (0 : Int), D.int IntKind.i64 (0 : Int), D.int IntKind.i64 (0 : Int)]).slice (List.map encIss b.iss)])), (2, T.box [C.d (D.int IntKind.i64 a.rcd), C.d (D.int IntKind.i64 a.pat.start), C.d (D.int IntKind.i64 a.pat.every), C.d (D.int IntKind.i64 a.pat.per), C.d (D.int IntKind.i64 a.pat.first), C.d (encInts a.pat.skip), C.d (encInts a.pat.dbl), C.d (D.int IntKind.i64 a.next), C.d ((D.agg [D.int IntKind.i64 (0 : Int), D.int IntKind.i64 (0 : Int), D.int IntKind.i64 (0 : Int), D.int IntKind.i64 (0 : Int), D.int IntKind.i64 (0 : Int), D.int IntKind.i64 (0 : Int)]).slice (List.map encIss a.iss))]), (3, T.box [C.d (D.int IntKind.i64 b.rcd), C.d (D.int IntKind.i64 b.pat.start), C.d (D.int IntKind.i64 b.pat.every), C.d (D.int IntKind.i64 b.pat.per), C.d (D.int IntKind.i64 b.pat.first), C.d (encInts b.pat.skip), C.d (encInts b.pat.dbl), C.d (D.int IntKind.i64 b.next), C.d ((D.agg [D.int IntKind.i64 (0 : Int), D.int IntKind.i64 (0 : Int), D.int IntKind.i64 (0 : Int), D.int IntKind.i64 (0 : Int), D.int IntKind.i64 (0 : Int), D.int IntKind.i64 (0 : Int)]).slice (List.map encIss b.iss))]), (5, T.val (D.int IntKind.i64 ↑k)), (24, T.val (D.int IntKind.i64 ↑a.iss.length)), (25, T.val (D.int IntKind.i64 ↑k)), (26, T.val (D.bool true)), (31, T.val (D.ref [D.int IntKind.i64 x.vol, D.int IntKind.i64 x.num, D.int IntKind.i64 x.last, D.int IntKind.i64 x.day, D.int IntKind.i64 x.st, D.int IntKind.i64 x.item])), (36, T.val (D.ref [D.int IntKind.i64 y.vol, D.int IntKind.i64 y.num, D.int IntKind.i64 y.last, D.int IntKind.i64 y.day, D.int IntKind.i64 y.st, D.int IntKind.i64 y.item]))] ?_ fun h_1_6 => ?_
        · skip
          refine coreS.step E_ok [4, 9, 10, 11] (by kernel_rfl) (by simp) ?_
          refine anyS.cons rfl ?_ ?_
          · skip
            simp [encSer_eq, encIsss_eq, encIss_eq, zIss, h26, hy1, hy2, hkb, hx, hxx]
            try simp (disch := omega) only [wrap_i64]
            repeat refine ⟨by first | omega | assumption | (simp only [maxLen]; omega) | (intros; omega) | decide, ?_⟩
            exact contS.mk (by simp [Weak, TW, T.plain, encSer_eq, encIsss_eq, encIss_eq, zIss]) h_1_4_6 (by kernel_rfl)
          refine anyS.cons rfl ?_ ?_
          · skip
            simp [encSer_eq, encIsss_eq, encIss_eq, zIss, h26, hy1, hy2, hkb, hx, hxx]
            try simp (disch := omega) only [wrap_i64]
            repeat refine ⟨by first | omega | assumption | (simp only [maxLen]; omega) | (intros; omega) | decide, ?_⟩
            exact contS.mk (by simp [Weak, TW, T.plain, encSer_eq, encIsss_eq, encIss_eq, zIss]) h_1_6_9 (by kernel_rfl)
          refine anyS.cons rfl ?_ ?_
          · skip
            simp [encSer_eq, encIsss_eq, encIss_eq, zIss, h26, hy1, hy2, hkb, hx, hxx]
            try simp (disch := omega) only [wrap_i64]
            repeat refine ⟨by first | omega | assumption | (simp only [maxLen]; omega) | (intros; omega) | decide, ?_⟩
            exact contS.mk (by simp [Weak, TW, T.plain, encSer_eq, encIsss_eq, encIss_eq, zIss]) h_1_6_10 (by kernel_rfl)
          refine anyS.cons rfl ?_ ?_
          · skip
            simp [encSer_eq, encIsss_eq, encIss_eq, zIss, h26, hy1, hy2, hkb, hx, hxx]
            try simp (disch := omega) only [wrap_i64]
            repeat refine ⟨by first | omega | assumption | (simp only [maxLen]; omega) | (intros; omega) | decide, ?_⟩
            exact contS.mk (by simp [Weak, TW, T.plain, encSer_eq, encIsss_eq, encIss_eq, zIss]) h_1_6_11 (by kernel_rfl)
          exact anyS.nil
        refine contS.cut 6 #[true, true, true, true, true, true, false, true, false, false, true, false, false, false] [(0, T.val (D.agg [D.int IntKind.i64 a.rcd, D.int IntKind.i64 a.pat.start, D.int IntKind.i64 a.pat.every, D.int IntKind.i64 a.pat.per, D.int IntKind.i64 a.pat.first, encInts a.pat.skip, encInts a.pat.dbl, D.int IntKind.i64 a.next, (D.agg [D.int IntKind.i64 (0 : Int), D.int IntKind.i64 (0 : Int), D.int IntKind.i64 (0 : Int), D.int IntKind.i64 (0 : Int), D.int IntKind.i64 (0 : Int), D.int IntKind.i64 (0 : Int)]).slice (List.map encIss a.iss)])), (1, T.val (D.agg [D.int IntKind.i64 b.rcd, D.int IntKind.i64 b.pat.start, D.int IntKind.i64 b.pat.every, D.int IntKind.i64 b.pat.per, D.int IntKind.i64 b.pat.first, encInts b.pat.skip, encInts b.pat.dbl, D.int IntKind.i64 b.next, (D.agg [D.int IntKind.i64 (0 : Int), D.int IntKind.i64 (0 : Int), D.int IntKind.i64 (0 : Int), D.int IntKind.i64 (0 : Int), D.int IntKind.i64 (0 : Int), D.int IntKind.i64 (0 : Int)]).slice (List.map encIss b.iss)])), (2, T.box [C.d (D.int IntKind.i64 a.rcd), C.d (D.int IntKind.i64 a.pat.start), C.d (D.int IntKind.i64 a.pat.every), C.d (D.int IntKind.i64 a.pat.per), C.d (D.int IntKind.i64 a.pat.first), C.d (encInts a.pat.skip), C.d (encInts a.pat.dbl), C.d (D.int IntKind.i64 a.next), C.d ((D.agg [D.int IntKind.i64 (0 : Int), D.int IntKind.i64 (0 : Int), D.int IntKind.i64 (0 : Int), D.int IntKind.i64 (0 : Int), D.int IntKind.i64 (0 : Int), D.int IntKind.i64 (0 : Int)]).slice (List.map encIss a.iss))]), (3, T.box [C.d (D.int IntKind.i64 b.rcd), C.d (D.int IntKind.i64 b.pat.start), C.d (D.int IntKind.i64 b.pat.every), C.d (D.int IntKind.i64 b.pat.per), C.d (D.int IntKind.i64 b.pat.first), C.d (encInts b.pat.skip), C.d (encInts b.pat.dbl), C.d (D.int IntKind.i64 b.next), C.d ((D.agg [D.int IntKind.i64 (0 : Int), D.int IntKind.i64 (0 : Int), D.int IntKind.i64 (0 : Int), D.int IntKind.i64 (0 : Int), D.int IntKind.i64 (0 : Int), D.int IntKind.i64 (0 : Int)]).slice (List.map encIss b.iss))]), (5, T.val (D.int IntKind.i64 ↑k)), (6, T.box [C.d (D.int IntKind.i64 (0 : Int)), C.d (D.int IntKind.i64 (0 : Int)), C.d (D.int IntKind.i64 (0 : Int)), C.d (D.int IntKind.i64 (0 : Int)), C.d (D.int IntKind.i64 (0 : Int)), C.d (D.int IntKind.i64 (0 : Int))]), (24, T.val (D.int IntKind.i64 ↑a.iss.length)), (25, T.val (D.int IntKind.i64 ↑k)), (26, T.val (D.bool true)), (32, T.val (D.agg [D.int IntKind.i64 x.vol, D.int IntKind.i64 x.num, D.int IntKind.i64 x.last, D.int IntKind.i64 x.day, D.int IntKind.i64 x.st, D.int IntKind.i64 x.item])), (33, T.ptr 3 8), (35, T.val (D.int IntKind.i64 ↑k))] ?_ fun h_1_4_10 => ?_
        · skip
          refine coreS.step E_ok [6, 11] (by kernel_rfl) (by simp) ?_
          refine anyS.cons rfl ?_ ?_
          · skip
            simp [encSer_eq, encIsss_eq, encIss_eq, zIss, h26, hy1, hy2, hkb, hx, hxx]
            try simp (disch := omega) only [wrap_i64]
            repeat refine ⟨by first | omega | assumption | (simp only [maxLen]; omega) | (intros; omega) | decide, ?_⟩
            refine contS.now (f' := 5) (l' := #[true, true, true, true, true, true, true, true, false, false, true, false, false, false]) ?_ rfl (by kernel_rfl)
            refine coreS.dry E_ok (by kernel_rfl) 8 rfl rfl (by kernel_rfl) (by kernel_rfl) ?_
            simp [encSer_eq, encIsss_eq, encIss_eq, zIss, h26, hy1, hy2, hkb, hx, hxx]
            try simp (disch := omega) only [wrap_i64]
            repeat refine ⟨by first | omega | assumption | (simp only [maxLen]; omega) | (intros; omega) | decide, ?_⟩
            exact contS.mk (by simp [Weak, TW, T.plain, encSer_eq, encIsss_eq, encIss_eq, zIss]) h_1_4_6_10 (by kernel_rfl)
          refine anyS.cons rfl ?_ ?_
          · skip
            simp [encSer_eq, encIsss_eq, encIss_eq, zIss, h26, hy1, hy2, hkb, hx, hxx]
            try simp (disch := omega) only [wrap_i64]
            repeat refine ⟨by first | omega | assumption | (simp only [maxLen]; omega) | (intros; omega) | decide, ?_⟩
            exact contS.mk (by simp [Weak, TW, T.plain, encSer_eq, encIsss_eq, encIss_eq, zIss]) h_1_4_10_11 (by kernel_rfl)
          exact anyS.nil
        refine contS.cut 6 #[true, true, true, true, true, true, false, true, false, false, false, true, false, false] [(0, T.val (D.agg [D.int IntKind.i64 a.rcd, D.int IntKind.i64 a.pat.start, D.int IntKind.i64 a.pat.every, D.int IntKind.i64 a.pat.per, D.int IntKind.i64 a.pat.first, encInts a.pat.skip, encInts a.pat.dbl, D.int IntKind.i64 a.next, (D.agg [D.int IntKind.i64 (0 : Int), D.int IntKind.i64 (0 : Int), D.int IntKind.i64 (0 : Int), D.int IntKind.i64 (0 : Int), D.int IntKind.i64 (0 : Int), D.int IntKind.i64 (0 : Int)]).slice (List.map encIss a.iss)])), (1, T.val (D.agg [D.int IntKind.i64 b.rcd, D.int IntKind.i64 b.pat.start, D.int IntKind.i64 b.pat.every, D.int IntKind.i64 b.pat.per, D.int IntKind.i64 b.pat.first, encInts b.pat.skip, encInts b.pat.dbl, D.int IntKind.i64 b.next, (D.agg [D.int IntKind.i64 (0 : Int), D.int IntKind.i64 (0 : Int), D.int IntKind.i64 (0 : Int), D.int IntKind.i64 (0 : Int), D.int IntKind.i64 (0 : Int), D.int IntKind.i64 (0 : Int)]).slice (List.map encIss b.iss)])), (2, T.box [C.d (D.int IntKind.i64 a.rcd), C.d (D.int IntKind.i64 a.pat.start), C.d (D.int IntKind.i64 a.pat.every), C.d (D.int IntKind.i64 a.pat.per), C.d (D.int IntKind.i64 a.pat.first), C.d (encInts a.pat.skip), C.d (encInts a.pat.dbl), C.d (D.int IntKind.i64 a.next), C.d ((D.agg [D.int IntKind.i64 (0 : Int), D.int IntKind.i64 (0 : Int), D.int IntKind.i64 (0 : Int), D.int IntKind.i64 (0 : Int), D.int IntKind.i64 (0 : Int), D.int IntKind.i64 (0 : Int)]).slice (List.map encIss a.iss))]), (3, T.box [C.d (D.int IntKind.i64 b.rcd), C.d (D.int IntKind.i64 b.pat.start), C.d (D.int IntKind.i64 b.pat.every), C.d (D.int IntKind.i64 b.pat.per), C.d (D.int IntKind.i64 b.pat.first), C.d (encInts b.pat.skip), C.d (encInts b.pat.dbl), C.d (D.int IntKind.i64 b.next), C.d ((D.agg [D.int IntKind.i64 (0 : Int), D.int IntKind.i64 (0 : Int), D.int IntKind.i64 (0 : Int), D.int IntKind.i64 (0 : Int), D.int IntKind.i64 (0 : Int), D.int IntKind.i64 (0 : Int)]).slice (List.map encIss b.iss))]), (5, T.val (D.int IntKind.i64 ↑k)), (7, T.box [C.d (D.int IntKind.i64 (0 : Int)), C.d (D.int IntKind.i64 (0 : Int)), C.d (D.int IntKind.i64 (0 : Int)), C.d (D.int IntKind.i64 (0 : Int)), C.d (D.int IntKind.i64 (0 : Int)), C.d (D.int IntKind.i64 (0 : Int))]), (24, T.val (D.int IntKind.i64 ↑a.iss.length)), (25, T.val (D.int IntKind.i64 ↑k)), (26, T.val (D.bool true)), (32, T.val (D.agg [D.int IntKind.i64 x.vol, D.int IntKind.i64 x.num, D.int IntKind.i64 x.last, D.int IntKind.i64 x.day, D.int IntKind.i64 x.st, D.int IntKind.i64 x.item])), (33, T.ptr 3 8), (35, T.val (D.int IntKind.i64 ↑k))] ?_ fun h_1_4_11 => ?_
        · skip
          refine coreS.step E_ok [6, 10] (by kernel_rfl) (by simp) ?_
          refine anyS.cons rfl ?_ ?_
          · skip
            simp [encSer_eq, encIsss_eq, encIss_eq, zIss, h26, hy1, hy2, hkb, hx, hxx]
            try simp (disch := omega) only [wrap_i64]
            repeat refine ⟨by first | omega | assumption | (simp only [maxLen]; omega) | (intros; omega) | decide, ?_⟩
            refine contS.now (f' := 5) (l' := #[true, true, true, true, true, true, true, true, false, false, false, true, false, false]) ?_ rfl (by kernel_rfl)
            refine coreS.dry E_ok (by kernel_rfl) 8 rfl rfl (by kernel_rfl) (by kernel_rfl) ?_
            simp [encSer_eq, encIsss_eq, encIss_eq, zIss, h26, hy1, hy2, hkb, hx, hxx]
            try simp (disch := omega) only [wrap_i64]
            repeat refine ⟨by first | omega | assumption | (simp only [maxLen]; omega) | (intros; omega) | decide, ?_⟩
            exact contS.mk (by simp [Weak, TW, T.plain, encSer_eq, encIsss_eq, encIss_eq, zIss]) h_1_4_6_11 (by kernel_rfl)
          refine anyS.cons rfl ?_ ?_
          · skip
            simp [encSer_eq, encIsss_eq, encIss_eq, zIss, h26, hy1, hy2, hkb, hx, hxx]
            try simp (disch := omega) only [wrap_i64]
            repeat refine ⟨by first | omega | assumption | (simp only [maxLen]; omega) | (intros; omega) | decide, ?_⟩
            exact contS.mk (by simp [Weak, TW, T.plain, encSer_eq, encIsss_eq, encIss_eq, zIss]) h_1_4_10_11 (by kernel_rfl)
          exact anyS.nil
        refine contS.cut 6 #[true, true, true, true, false, true, false, true, false, false, true, true, false, false] [(0, T.val (D.agg [D.int IntKind.i64 a.rcd, D.int IntKind.i64 a.pat.start, D.int IntKind.i64 a.pat.every, D.int IntKind.i64 a.pat.per, D.int IntKind.i64 a.pat.first, encInts a.pat.skip, encInts a.pat.dbl, D.int IntKind.i64 a.next, (D.agg [D.int IntKind.i64 (0 : Int), D.int IntKind.i64 (0 : Int), D.int IntKind.i64 (0 : Int), D.int IntKind.i64 (0 : Int), D.int IntKind.i64 (0 : Int), D.int IntKind.i64 (0 : Int)]).slice (List.map encIss a.iss)])), (1, T.val (D.agg [D.int IntKind.i64 b.rcd, D.int IntKind.i64 b.pat.start, D.int IntKind.i64 b.pat.every, D.int IntKind.i64 b.pat.per, D.int IntKind.i64 b.pat.first, encInts b.pat.skip, encInts b.pat.dbl, D.int IntKind.i64 b.next, (D.agg [D.int IntKind.i64 (0 : Int), D.int IntKind.i64 (0 : Int), D.int IntKind.i64 (0 : Int), D.int IntKind.i64 (0 : Int), D.int IntKind.i64 (0 : Int), D.int IntKind.i64 (0 : Int)]).slice (List.map encIss b.iss)])), (2, T.box [C.d (D.int IntKind.i64 a.rcd), C.d (D.int IntKind.i64 a.pat.start), C.d (D.int IntKind.i64 a.pat.every), C.d (D.int IntKind.i64 a.pat.per), C.d (D.int IntKind.i64 a.pat.first), C.d (encInts a.pat.skip), C.d (encInts a.pat.dbl), C.d (D.int IntKind.i64 a.next), C.d ((D.agg [D.int IntKind.i64 (0 : Int), D.int IntKind.i64 (0 : Int), D.int IntKind.i64 (0 : Int), D.int IntKind.i64 (0 : Int), D.int IntKind.i64 (0 : Int), D.int IntKind.i64 (0 : Int)]).slice (List.map encIss a.iss))]), (3, T.box [C.d (D.int IntKind.i64 b.rcd), C.d (D.int IntKind.i64 b.pat.start), C.d (D.int IntKind.i64 b.pat.every), C.d (D.int IntKind.i64 b.pat.per), C.d (D.int IntKind.i64 b.pat.first), C.d (encInts b.pat.skip), C.d (encInts b.pat.dbl), C.d (D.int IntKind.i64 b.next), C.d ((D.agg [D.int IntKind.i64 (0 : Int), D.int IntKind.i64 (0 : Int), D.int IntKind.i64 (0 : Int), D.int IntKind.i64 (0 : Int), D.int IntKind.i64 (0 : Int), D.int IntKind.i64 (0 : Int)]).slice (List.map encIss b.iss))]), (5, T.val (D.int IntKind.i64 ↑k)), (6, T.box [C.d (D.int IntKind.i64 (0 : Int)), C.d (D.int IntKind.i64 (0 : Int)), C.d (D.int IntKind.i64 (0 : Int)), C.d (D.int IntKind.i64 (0 : Int)), C.d (D.int IntKind.i64 (0 : Int)), C.d (D.int IntKind.i64 (0 : Int))]), (7, T.box [C.d (D.int IntKind.i64 (0 : Int)), C.d (D.int IntKind.i64 (0 : Int)), C.d (D.int IntKind.i64 (0 : Int)), C.d (D.int IntKind.i64 (0 : Int)), C.d (D.int IntKind.i64 (0 : Int)), C.d (D.int IntKind.i64 (0 : Int))]), (24, T.val (D.int IntKind.i64 ↑a.iss.length)), (25, T.val (D.int IntKind.i64 ↑k)), (26, T.val (D.bool true)), (31, T.val (D.ref [D.int IntKind.i64 x.vol, D.int IntKind.i64 x.num, D.int IntKind.i64 x.last, D.int IntKind.i64 x.day, D.int IntKind.i64 x.st, D.int IntKind.i64 x.item])), (33, T.ptr 3 8), (35, T.val (D.int IntKind.i64 ↑k))] ?_ fun h_1_10_11 => ?_
        · skip
          refine coreS.step E_ok [4, 6] (by kernel_rfl) (by simp) ?_
          refine anyS.cons rfl ?_ ?_
          · skip
            simp [encSer_eq, encIsss_eq, encIss_eq, zIss, h26, hy1, hy2, hkb, hx, hxx]
            try simp (disch := omega) only [wrap_i64]
            repeat refine ⟨by first | omega | assumption | (simp only [maxLen]; omega) | (intros; omega) | decide, ?_⟩
            exact contS.mk (by simp [Weak, TW, T.plain, encSer_eq, encIsss_eq, encIss_eq, zIss]) h_1_4_10_11 (by kernel_rfl)
          refine anyS.cons rfl ?_ ?_
          · skip
            simp [encSer_eq, encIsss_eq, encIss_eq, zIss, h26, hy1, hy2, hkb, hx, hxx]
            try simp (disch := omega) only [wrap_i64]
            repeat refine ⟨by first | omega | assumption | (simp only [maxLen]; omega) | (intros; omega) | decide, ?_⟩
            refine contS.now (f' := 5) (l' := #[true, true, true, true, false, true, true, true, false, false, true, true, false, false]) ?_ rfl (by kernel_rfl)
            refine coreS.dry E_ok (by kernel_rfl) 8 rfl rfl (by kernel_rfl) (by kernel_rfl) ?_
            simp [encSer_eq, encIsss_eq, encIss_eq, zIss, h26, hy1, hy2, hkb, hx, hxx]
            try simp (disch := omega) only [wrap_i64]
            repeat refine ⟨by first | omega | assumption | (simp only [maxLen]; omega) | (intros; omega) | decide, ?_⟩
            exact contS.mk (by simp [Weak, TW, T.plain, encSer_eq, encIsss_eq, encIss_eq, zIss]) h_1_6_10_11 (by kernel_rfl)
          exact anyS.nil
        refine contS.cut 6 #[true, false, true, false, false, true, true, true, true, true, true, false, false, false] [(0, T.val (D.agg [D.int IntKind.i64 a.rcd, D.int IntKind.i64 a.pat.start, D.int IntKind.i64 a.pat.every, D.int IntKind.i64 a.pat.per, D.int IntKind.i64 a.pat.first, encInts a.pat.skip, encInts a.pat.dbl, D.int IntKind.i64 a.next, (D.agg [D.int IntKind.i64 (0 : Int), D.int IntKind.i64 (0 : Int), D.int IntKind.i64 (0 : Int), D.int IntKind.i64 (0 : Int), D.int IntKind.i64 (0 : Int), D.int IntKind.i64 (0 : Int)]).slice (List.map encIss a.iss)])), (1, T.val (D.agg [D.int IntKind.i64 b.rcd, D.int IntKind.i64 b.pat.start, D.int IntKind.i64 b.pat.every, D.int IntKind.i64 b.pat.per, D.int IntKind.i64 b.pat.first, encInts b.pat.skip, encInts b.pat.dbl, D.int IntKind.i64 b.next, (D.agg [D.int IntKind.i64 (0 : Int), D.int IntKind.i64 (0 : Int), D.int IntKind.i64 (0 : Int), D.int IntKind.i64 (0 : Int), D.int IntKind.i64 (0 : Int), D.int IntKind.i64 (0 : Int)]).slice (List.map encIss b.iss)])), (2, T.box [C.d (D.int IntKind.i64 a.rcd), C.d (D.int IntKind.i64 a.pat.start), C.d (D.int IntKind.i64 a.pat.every), C.d (D.int IntKind.i64 a.pat.per), C.d (D.int IntKind.i64 a.pat.first), C.d (encInts a.pat.skip), C.d (encInts a.pat.dbl), C.d (D.int IntKind.i64 a.next), C.d ((D.agg [D.int IntKind.i64 (0 : Int), D.int IntKind.i64 (0 : Int), D.int IntKind.i64 (0 : Int), D.int IntKind.i64 (0 : Int), D.int IntKind.i64 (0 : Int), D.int IntKind.i64 (0 : Int)]).slice (List.map encIss a.iss))]), (3, T.box [C.d (D.int IntKind.i64 b.rcd), C.d (D.int IntKind.i64 b.pat.start), C.d (D.int IntKind.i64 b.pat.every), C.d (D.int IntKind.i64 b.pat.per), C.d (D.int IntKind.i64 b.pat.first), C.d (encInts b.pat.skip), C.d (encInts b.pat.dbl), C.d (D.int IntKind.i64 b.next), C.d ((D.agg [D.int IntKind.i64 (0 : Int), D.int IntKind.i64 (0 : Int), D.int IntKind.i64 (0 : Int), D.int IntKind.i64 (0 : Int), D.int IntKind.i64 (0 : Int), D.int IntKind.i64 (0 : Int)]).slice (List.map encIss b.iss))]), (5, T.val (D.int IntKind.i64 ↑k)), (6, T.box [C.d (D.int IntKind.i64 (0 : Int)), C.d (D.int IntKind.i64 (0 : Int)), C.d (D.int IntKind.i64 (0 : Int)), C.d (D.int IntKind.i64 (0 : Int)), C.d (D.int IntKind.i64 (0 : Int)), C.d (D.int IntKind.i64 (0 : Int))]), (24, T.val (D.int IntKind.i64 ↑a.iss.length)), (25, T.val (D.int IntKind.i64 ↑k)), (26, T.val (D.bool true)), (28, T.ptr 2 8), (30, T.val (D.int IntKind.i64 ↑k)), (37, T.val (D.agg [D.int IntKind.i64 y.vol, D.int IntKind.i64 y.num, D.int IntKind.i64 y.last, D.int IntKind.i64 y.day, D.int IntKind.i64 y.st, D.int IntKind.i64 y.item]))] ?_ fun h_6_9_10 => ?_
        · skip
          refine coreS.step E_ok [1, 11] (by kernel_rfl) (by simp) ?_
          refine anyS.cons rfl ?_ ?_
          · skip
            simp [encSer_eq, encIsss_eq, encIss_eq, zIss, h26, hy1, hy2, hkb, hx, hxx]
            try simp (disch := omega) only [wrap_i64]
            repeat refine ⟨by first | omega | assumption | (simp only [maxLen]; omega) | (intros; omega) | decide, ?_⟩
            refine contS.now (f' := 5) (l' := #[true, true, true, false, false, true, true, true, true, true, true, false, false, false]) ?_ rfl (by kernel_rfl)
            refine coreS.dry E_ok (by kernel_rfl) 3 rfl rfl (by kernel_rfl) (by kernel_rfl) ?_
            simp [encSer_eq, encIsss_eq, encIss_eq, zIss, h26, hy1, hy2, hkb, hx, hxx]
            try simp (disch := omega) only [wrap_i64]
            repeat refine ⟨by first | omega | assumption | (simp only [maxLen]; omega) | (intros; omega) | decide, ?_⟩
            exact contS.mk (by simp [Weak, TW, T.plain, encSer_eq, encIsss_eq, encIss_eq, zIss]) h_1_6_9_10 (by kernel_rfl)
          refine anyS.cons rfl ?_ ?_
          · skip
            simp [encSer_eq, encIsss_eq, encIss_eq, zIss, h26, hy1, hy2, hkb, hx, hxx]
            try simp (disch := omega) only [wrap_i64]
            repeat refine ⟨by first | omega | assumption | (simp only [maxLen]; omega) | (intros; omega) | decide, ?_⟩
            exact contS.mk (by simp [Weak, TW, T.plain, encSer_eq, encIsss_eq, encIss_eq, zIss]) h_6_9_10_11 (by kernel_rfl)
          exact anyS.nil
        refine contS.cut 6 #[true, false, true, false, false, true, true, true, true, true, false, true, false, false] [(0, T.val (D.agg [D.int IntKind.i64 a.rcd, D.int IntKind.i64 a.pat.start, D.int IntKind.i64 a.pat.every, D.int IntKind.i64 a.pat.per, D.int IntKind.i64 a.pat.first, encInts a.pat.skip, encInts a.pat.dbl, D.int IntKind.i64 a.next, (D.agg [D.int IntKind.i64 (0 : Int), D.int IntKind.i64 (0 : Int), D.int IntKind.i64 (0 : Int), D.int IntKind.i64 (0 : Int), D.int IntKind.i64 (0 : Int), D.int IntKind.i64 (0 : Int)]).slice (List.map encIss a.iss)])), (1, T.val (D.agg [D.int IntKind.i64 b.rcd, D.int IntKind.i64 b.pat.start, D.int IntKind.i64 b.pat.every, D.int IntKind.i64 b.pat.per, D.int IntKind.i64 b.pat.first, encInts b.pat.skip, encInts b.pat.dbl, D.int IntKind.i64 b.next, (D.agg [D.int IntKind.i64 (0 : Int), D.int IntKind.i64 (0 : Int), D.int IntKind.i64 (0 : Int), D.int IntKind.i64 (0 : Int), D.int IntKind.i64 (0 : Int), D.int IntKind.i64 (0 : Int)]).slice (List.map encIss b.iss)])), (2, T.box [C.d (D.int IntKind.i64 a.rcd), C.d (D.int IntKind.i64 a.pat.start), C.d (D.int IntKind.i64 a.pat.every), C.d (D.int IntKind.i64 a.pat.per), C.d (D.int IntKind.i64 a.pat.first), C.d (encInts a.pat.skip), C.d (encInts a.pat.dbl), C.d (D.int IntKind.i64 a.next), C.d ((D.agg [D.int IntKind.i64 (0 : Int), D.int IntKind.i64 (0 : Int), D.int IntKind.i64 (0 : Int), D.int IntKind.i64 (0 : Int), D.int IntKind.i64 (0 : Int), D.int IntKind.i64 (0 : Int)]).slice (List.map encIss a.iss))]), (3, T.box [C.d (D.int IntKind.i64 b.rcd), C.d (D.int IntKind.i64 b.pat.start), C.d (D.int IntKind.i64 b.pat.every), C.d (D.int IntKind.i64 b.pat.per), C.d (D.int IntKind.i64 b.pat.first), C.d (encInts b.pat.skip), C.d (encInts b.pat.dbl), C.d (D.int IntKind.i64 b.next), C.d ((D.agg [D.int IntKind.i64 (0 : Int), D.int IntKind.i64 (0 : Int), D.int IntKind.i64 (0 : Int), D.int IntKind.i64 (0 : Int), D.int IntKind.i64 (0 : Int), D.int IntKind.i64 (0 : Int)]).slice (List.map encIss b.iss))]), (5, T.val (D.int IntKind.i64 ↑k)), (7, T.box [C.d (D.int IntKind.i64 (0 : Int)), C.d (D.int IntKind.i64 (0 : Int)), C.d (D.int IntKind.i64 (0 : Int)), C.d (D.int IntKind.i64 (0 : Int)), C.d (D.int IntKind.i64 (0 : Int)), C.d (D.int IntKind.i64 (0 : Int))]), (24, T.val (D.int IntKind.i64 ↑a.iss.length)), (25, T.val (D.int IntKind.i64 ↑k)), (26, T.val (D.bool true)), (28, T.ptr 2 8), (30, T.val (D.int IntKind.i64 ↑k)), (37, T.val (D.agg [D.int IntKind.i64 y.vol, D.int IntKind.i64 y.num, D.int IntKind.i64 y.last, D.int IntKind.i64 y.day, D.int IntKind.i64 y.st, D.int IntKind.i64 y.item]))] ?_ fun h_6_9_11 => ?_
        · skip
          refine coreS.step E_ok [1, 10] (by kernel_rfl) (by simp) ?_
          refine anyS.cons rfl ?_ ?_
          · skip
            simp [encSer_eq, encIsss_eq, encIss_eq, zIss, h26, hy1, hy2, hkb, hx, hxx]
            try simp (disch := omega) only [wrap_i64]
            repeat refine ⟨by first | omega | assumption | (simp only [maxLen]; omega) | (intros; omega) | decide, ?_⟩
            refine contS.now (f' := 5) (l' := #[true, true, true, false, false, true, true, true, true, true, false, true, false, false]) ?_ rfl (by kernel_rfl)
            refine coreS.dry E_ok (by kernel_rfl) 3 rfl rfl (by kernel_rfl) (by kernel_rfl) ?_
            simp [encSer_eq, encIsss_eq, encIss_eq, zIss, h26, hy1, hy2, hkb, hx, hxx]
            try simp (disch := omega) only [wrap_i64]
            repeat refine ⟨by first | omega | assumption | (simp only [maxLen]; omega) | (intros; omega) | decide, ?_⟩
            exact contS.mk (by simp [Weak, TW, T.plain, encSer_eq, encIsss_eq, encIss_eq, zIss]) h_1_6_9_11 (by kernel_rfl)
          refine anyS.cons rfl ?_ ?_
          · skip
            simp [encSer_eq, encIsss_eq, encIss_eq, zIss, h26, hy1, hy2, hkb, hx, hxx]
            try simp (disch := omega) only [wrap_i64]
            repeat refine ⟨by first | omega | assumption | (simp only [maxLen]; omega) | (intros; omega) | decide, ?_⟩
            exact contS.mk (by simp [Weak, TW, T.plain, encSer_eq, encIsss_eq, encIss_eq, zIss]) h_6_9_10_11 (by kernel_rfl)
          exact anyS.nil
        refine contS.cut 6 #[true, false, true, false, false, true, true, true, true, false, true, true, false, false] [(0, T.val (D.agg [D.int IntKind.i64 a.rcd, D.int IntKind.i64 a.pat.start, D.int IntKind.i64 a.pat.every, D.int IntKind.i64 a.pat.per, D.int IntKind.i64 a.pat.first, encInts a.pat.skip, encInts a.pat.dbl, D.int IntKind.i64 a.next, (D.agg [D.int IntKind.i64 (0 : Int), D.int IntKind.i64 (0 : Int), D.int IntKind.i64 (0 : Int), D.int IntKind.i64 (0 : Int), D.int IntKind.i64 (0 : Int), D.int IntKind.i64 (0 : Int)]).slice (List.map encIss a.iss)])), (1, T.val (D.agg [D.int IntKind.i64 b.rcd, D.int IntKind.i64 b.pat.start, D.int IntKind.i64 b.pat.every, D.int IntKind.i64 b.pat.per, D.int IntKind.i64 b.pat.first, encInts b.pat.skip, encInts b.pat.dbl, D.int IntKind.i64 b.next, (D.agg [D.int IntKind.i64 (0 : Int), D.int IntKind.i64 (0 : Int), D.int IntKind.i64 (0 : Int), D.int IntKind.i64 (0 : Int), D.int IntKind.i64 (0 : Int), D.int IntKind.i64 (0 : Int)]).slice (List.map encIss b.iss)])), (2, T.box [C.d (D.int IntKind.i64 a.rcd), C.d (D.int IntKind.i64 a.pat.start), C.d (D.int IntKind.i64 a.pat.every), C.d (D.int IntKind.i64 a.pat.per), C.d (D.int IntKind.i64 a.pat.first), C.d (encInts a.pat.skip), C.d (encInts a.pat.dbl), C.d (D.int IntKind.i64 a.next), C.d ((D.agg [D.int IntKind.i64 (0 : Int), D.int IntKind.i64 (0 : Int), D.int IntKind.i64 (0 : Int), D.int IntKind.i64 (0 : Int), D.int IntKind.i64 (0 : Int), D.int IntKind.i64 (0 : Int)]).slice (List.map encIss a.iss))]), (3, T.box [C.d (D.int IntKind.i64 b.rcd), C.d (D.int IntKind.i64 b.pat.start), C.d (D.int IntKind.i64 b.pat.every), C.d (D.int IntKind.i64 b.pat.per), C.d (D.int IntKind.i64 b.pat.first), C.d (encInts b.pat.skip), C.d (encInts b.pat.dbl), C.d (D.int IntKind.i64 b.next), C.d ((D.agg [D.int IntKind.i64 (0 : Int), D.int IntKind.i64 (0 : Int), D.int IntKind.i64 (0 : Int), D.int IntKind.i64 (0 : Int), D.int IntKind.i64 (0 : Int), D.int IntKind.i64 (0 : Int)]).slice (List.map encIss b.iss))]), (5, T.val (D.int IntKind.i64 ↑k)), (6, T.box [C.d (D.int IntKind.i64 (0 : Int)), C.d (D.int IntKind.i64 (0 : Int)), C.d (D.int IntKind.i64 (0 : Int)), C.d (D.int IntKind.i64 (0 : Int)), C.d (D.int IntKind.i64 (0 : Int)), C.d (D.int IntKind.i64 (0 : Int))]), (7, T.box [C.d (D.int IntKind.i64 (0 : Int)), C.d (D.int IntKind.i64 (0 : Int)), C.d (D.int IntKind.i64 (0 : Int)), C.d (D.int IntKind.i64 (0 : Int)), C.d (D.int IntKind.i64 (0 : Int)), C.d (D.int IntKind.i64 (0 : Int))]), (24, T.val (D.int IntKind.i64 ↑a.iss.length)), (25, T.val (D.int IntKind.i64 ↑k)), (26, T.val (D.bool true)), (28, T.ptr 2 8), (30, T.val (D.int IntKind.i64 ↑k)), (36, T.val (D.ref [D.int IntKind.i64 y.vol, D.int IntKind.i64 y.num, D.int IntKind.i64 y.last, D.int IntKind.i64 y.day, D.int IntKind.i64 y.st, D.int IntKind.i64 y.item]))] ?_ fun h_6_10_11 => ?_
        · skip
          refine coreS.step E_ok [1, 9] (by kernel_rfl) (by simp) ?_
          refine anyS.cons rfl ?_ ?_
          · skip
            simp [encSer_eq, encIsss_eq, encIss_eq, zIss, h26, hy1, hy2, hkb, hx, hxx]
            try simp (disch := omega) only [wrap_i64]
            repeat refine ⟨by first | omega | assumption | (simp only [maxLen]; omega) | (intros; omega) | decide, ?_⟩
            refine contS.now (f' := 5) (l' := #[true, true, true, false, false, true, true, true, true, false, true, true, false, false]) ?_ rfl (by kernel_rfl)
            refine coreS.dry E_ok (by kernel_rfl) 3 rfl rfl (by kernel_rfl) (by kernel_rfl) ?_
            simp [encSer_eq, encIsss_eq, encIss_eq, zIss, h26, hy1, hy2, hkb, hx, hxx]
            try simp (disch := omega) only [wrap_i64]
            repeat refine ⟨by first | omega | assumption | (simp only [maxLen]; omega) | (intros; omega) | decide, ?_⟩
            exact contS.mk (by simp [Weak, TW, T.plain, encSer_eq, encIsss_eq, encIss_eq, zIss]) h_1_6_10_11 (by kernel_rfl)
          refine anyS.cons rfl ?_ ?_
          · skip
            simp [encSer_eq, encIsss_eq, encIss_eq, zIss, h26, hy1, hy2, hkb, hx, hxx]
            try simp (disch := omega) only [wrap_i64]
            repeat refine ⟨by first | omega | assumption | (simp only [maxLen]; omega) | (intros; omega) | decide, ?_⟩
            exact contS.mk (by simp [Weak, TW, T.plain, encSer_eq, encIsss_eq, encIss_eq, zIss]) h_6_9_10_11 (by kernel_rfl)
          exact anyS.nil
        refine contS.cut 7 #[true, true, true, true, true, true, false, true, false, false, false, false, false, false] [(0, T.val (D.agg [D.int IntKind.i64 a.rcd, D.int IntKind.i64 a.pat.start, D.int IntKind.i64 a.pat.every, D.int IntKind.i64 a.pat.per, D.int IntKind.i64 a.pat.first, encInts a.pat.skip, encInts a.pat.dbl, D.int IntKind.i64 a.next, (D.agg [D.int IntKind.i64 (0 : Int), D.int IntKind.i64 (0 : Int), D.int IntKind.i64 (0 : Int), D.int IntKind.i64 (0 : Int), D.int IntKind.i64 (0 : Int), D.int IntKind.i64 (0 : Int)]).slice (List.map encIss a.iss)])), (1, T.val (D.agg [D.int IntKind.i64 b.rcd, D.int IntKind.i64 b.pat.start, D.int IntKind.i64 b.pat.every, D.int IntKind.i64 b.pat.per, D.int IntKind.i64 b.pat.first, encInts b.pat.skip, encInts b.pat.dbl, D.int IntKind.i64 b.next, (D.agg [D.int IntKind.i64 (0 : Int), D.int IntKind.i64 (0 : Int), D.int IntKind.i64 (0 : Int), D.int IntKind.i64 (0 : Int), D.int IntKind.i64 (0 : Int), D.int IntKind.i64 (0 : Int)]).slice (List.map encIss b.iss)])), (2, T.box [C.d (D.int IntKind.i64 a.rcd), C.d (D.int IntKind.i64 a.pat.start), C.d (D.int IntKind.i64 a.pat.every), C.d (D.int IntKind.i64 a.pat.per), C.d (D.int IntKind.i64 a.pat.first), C.d (encInts a.pat.skip), C.d (encInts a.pat.dbl), C.d (D.int IntKind.i64 a.next), C.d ((D.agg [D.int IntKind.i64 (0 : Int), D.int IntKind.i64 (0 : Int), D.int IntKind.i64 (0 : Int), D.int IntKind.i64 (0 : Int), D.int IntKind.i64 (0 : Int), D.int IntKind.i64 (0 : Int)]).slice (List.map encIss a.iss))]), (3, T.box [C.d (D.int IntKind.i64 b.rcd), C.d (D.int IntKind.i64 b.pat.start), C.d (D.int IntKind.i64 b.pat.every), C.d (D.int IntKind.i64 b.pat.per), C.d (D.int IntKind.i64 b.pat.first), C.d (encInts b.pat.skip), C.d (encInts b.pat.dbl), C.d (D.int IntKind.i64 b.next), C.d ((D.agg [D.int IntKind.i64 (0 : Int), D.int IntKind.i64 (0 : Int), D.int IntKind.i64 (0 : Int), D.int IntKind.i64 (0 : Int), D.int IntKind.i64 (0 : Int), D.int IntKind.i64 (0 : Int)]).slice (List.map encIss b.iss))]), (5, T.val (D.int IntKind.i64 ↑k)), (24, T.val (D.int IntKind.i64 ↑a.iss.length)), (25, T.val (D.int IntKind.i64 ↑k)), (26, T.val (D.bool true)), (32, T.val (D.agg [D.int IntKind.i64 x.vol, D.int IntKind.i64 x.num, D.int IntKind.i64 x.last, D.int IntKind.i64 x.day, D.int IntKind.i64 x.st, D.int IntKind.i64 x.item])), (33, T.ptr 3 8), (35, T.val (D.int IntKind.i64 ↑k))] ?_ fun h_1_4 => ?_
        · skip
          refine coreS.step E_ok [6, 10, 11] (by kernel_rfl) (by simp) ?_
          refine anyS.cons rfl ?_ ?_
          · skip
            simp [encSer_eq, encIsss_eq, encIss_eq, zIss, h26, hy1, hy2, hkb, hx, hxx]
            try simp (disch := omega) only [wrap_i64]
            repeat refine ⟨by first | omega | assumption | (simp only [maxLen]; omega) | (intros; omega) | decide, ?_⟩
            refine contS.now (f' := 6) (l' := #[true, true, true, true, true, true, true, true, false, false, false, false, false, false]) ?_ rfl (by kernel_rfl)
            refine coreS.dry E_ok (by kernel_rfl) 8 rfl rfl (by kernel_rfl) (by kernel_rfl) ?_
            simp [encSer_eq, encIsss_eq, encIss_eq, zIss, h26, hy1, hy2, hkb, hx, hxx]
            try simp (disch := omega) only [wrap_i64]
            repeat refine ⟨by first | omega | assumption | (simp only [maxLen]; omega) | (intros; omega) | decide, ?_⟩
            exact contS.mk (by simp [Weak, TW, T.plain, encSer_eq, encIsss_eq, encIss_eq, zIss]) h_1_4_6 (by kernel_rfl)
          refine anyS.cons rfl ?_ ?_
          · skip
            simp [encSer_eq, encIsss_eq, encIss_eq, zIss, h26, hy1, hy2, hkb, hx, hxx]
            try simp (disch := omega) only [wrap_i64]
            repeat refine ⟨by first | omega | assumption | (simp only [maxLen]; omega) | (intros; omega) | decide, ?_⟩
            exact contS.mk (by simp [Weak, TW, T.plain, encSer_eq, encIsss_eq, encIss_eq, zIss]) h_1_4_10 (by kernel_rfl)
          refine anyS.cons rfl ?_ ?_
          · skip
            simp [encSer_eq, encIsss_eq, encIss_eq, zIss, h26, hy1, hy2, hkb, hx, hxx]
            try simp (disch := omega) only [wrap_i64]
            repeat refine ⟨by first | omega | assumption | (simp only [maxLen]; omega) | (intros; omega) | decide, ?_⟩
            exact contS.mk (by simp [Weak, TW, T.plain, encSer_eq, encIsss_eq, encIss_eq, zIss]) h_1_4_11 (by kernel_rfl)
          exact anyS.nil
        refine contS.cut 7 #[true, true, true, true, false, true, false, true, false, false, true, false, false, false] [(0, T.val (D.agg [D.int IntKind.i64 a.rcd, D.int IntKind.i64 a.pat.start, D.int IntKind.i64 a.pat.every, D.int IntKind.i64 a.pat.per, D.int IntKind.i64 a.pat.first, encInts a.pat.skip, encInts a.pat.dbl, D.int IntKind.i64 a.next, (D.agg [D.int IntKind.i64 (0 : Int), D.int IntKind.i64 (0 : Int), D.int IntKind.i64 (0 : Int), D.int IntKind.i64 (0 : Int), D.int IntKind.i64 (0 : Int), D.int IntKind.i64 (0 : Int)]).slice (List.map encIss a.iss)])), (1, T.val (D.agg [D.int IntKind.i64 b.rcd, D.int IntKind.i64 b.pat.start, D.int IntKind.i64 b.pat.every, D.int IntKind.i64 b.pat.per, D.int IntKind.i64 b.pat.first, encInts b.pat.skip, encInts b.pat.dbl, D.int IntKind.i64 b.next, (D.agg [D.int IntKind.i64 (0 : Int), D.int IntKind.i64 (0 : Int), D.int IntKind.i64 (0 : Int), D.int IntKind.i64 (0 : Int), D.int IntKind.i64 (0 : Int), D.int IntKind.i64 (0 : Int)]).slice (List.map encIss b.iss)])), (2, T.box [C.d (D.int IntKind.i64 a.rcd), C.d (D.int IntKind.i64 a.pat.start), C.d (D.int IntKind.i64 a.pat.every), C.d (D.int IntKind.i64 a.pat.per), C.d (D.int IntKind.i64 a.pat.first), C.d (encInts a.pat.skip), C.d (encInts a.pat.dbl), C.d (D.int IntKind.i64 a.next), C.d ((D.agg [D.int IntKind.i64 (0 : Int), D.int IntKind.i64 (0 : Int), D.int IntKind.i64 (0 : Int), D.int IntKind.i64 (0 : Int), D.int IntKind.i64 (0 : Int), D.int IntKind.i64 (0 : Int)]).slice (List.map encIss a.iss))]), (3, T.box [C.d (D.int IntKind.i64 b.rcd), C.d (D.int IntKind.i64 b.pat.start), C.d (D.int IntKind.i64 b.pat.every), C.d (D.int IntKind.i64 b.pat.per), C.d (D.int IntKind.i64 b.pat.first), C.d (encInts b.pat.skip), C.d (encInts b.pat.dbl), C.d (D.int IntKind.i64 b.next), C.d ((D.agg [D.int IntKind.i64 (0 : Int), D.int IntKind.i64 (0 : Int), D.int IntKind.i64 (0 : Int), D.int IntKind.i64 (0 : Int), D.int IntKind.i64 (0 : Int), D.int IntKind.i64 (0 : Int)]).slice (List.map encIss b.iss))]), (5, T.val (D.int IntKind.i64 ↑k)), (6, T.box [C.d (D.int IntKind.i64 (0 : Int)), C.d (D.int IntKind.i64 (0 : Int)), C.d (D.int IntKind.i64 (0 : Int)), C.d (D.int IntKind.i64 (0 : Int)), C.d (D.int IntKind.i64 (0 : Int)), C.d (D.int IntKind.i64 (0 : Int))]), (24, T.val (D.int IntKind.i64 ↑a.iss.length)), (25, T.val (D.int IntKind.i64 ↑k)), (26, T.val (D.bool true)), (31, T.val (D.ref [D.int IntKind.i64 x.vol, D.int IntKind.i64 x.num, D.int IntKind.i64 x.last, D.int IntKind.i64 x.day, D.int IntKind.i64 x.st, D.int IntKind.i64 x.item])), (33, T.ptr 3 8), (35, T.val (D.int IntKind.i64 ↑k))] ?_ fun h_1_10 => ?_
        · skip
          refine coreS.step E_ok [4, 6, 11] (by kernel_rfl) (by simp) ?_
          refine anyS.cons rfl ?_ ?_
          · skip
            simp [encSer_eq, encIsss_eq, encIss_eq, zIss, h26, hy1, hy2, hkb, hx, hxx]
            try simp (disch := omega) only [wrap_i64]
            repeat refine ⟨by first | omega | assumption | (simp only [maxLen]; omega) | (intros; omega) | decide, ?_⟩
            exact contS.mk (by simp [Weak, TW, T.plain, encSer_eq, encIsss_eq, encIss_eq, zIss]) h_1_4_10 (by kernel_rfl)
          refine anyS.cons rfl ?_ ?_
          · skip
            simp [encSer_eq, encIsss_eq, encIss_eq, zIss, h26, hy1, hy2, hkb, hx, hxx]
            try simp (disch := omega) only [wrap_i64]
            repeat refine ⟨by first | omega | assumption | (simp only [maxLen]; omega) | (intros; omega) | decide, ?_⟩
            refine contS.now (f' := 6) (l' := #[true, true, true, true, false, true, true, true, false, false, true, false, false, false]) ?_ rfl (by kernel_rfl)
            refine coreS.dry E_ok (by kernel_rfl) 8 rfl rfl (by kernel_rfl) (by kernel_rfl) ?_
            simp [encSer_eq, encIsss_eq, encIss_eq, zIss, h26, hy1, hy2, hkb, hx, hxx]
            try simp (disch := omega) only [wrap_i64]
            repeat refine ⟨by first | omega | assumption | (simp only [maxLen]; omega) | (intros; omega) | decide, ?_⟩
            exact contS.mk (by simp [Weak, TW, T.plain, encSer_eq, encIsss_eq, encIss_eq, zIss]) h_1_6_10 (by kernel_rfl)
          refine anyS.cons rfl ?_ ?_
          · skip
            simp [encSer_eq, encIsss_eq, encIss_eq, zIss, h26, hy1, hy2, hkb, hx, hxx]
            try simp (disch := omega) only [wrap_i64]
            repeat refine ⟨by first | omega | assumption | (simp only [maxLen]; omega) | (intros; omega) | decide, ?_⟩
            exact contS.mk (by simp [Weak, TW, T.plain, encSer_eq, encIsss_eq, encIss_eq, zIss]) h_1_10_11 (by kernel_rfl)
          exact anyS.nil
        refine contS.cut 7 #[true, true, true, true, false, true, false, true, false, false, false, true, false, false] [(0, T.val (D.agg [D.int IntKind.i64 a.rcd, D.int IntKind.i64 a.pat.start, D.int IntKind.i64 a.pat.every, D.int IntKind.i64 a.pat.per, D.int IntKind.i64 a.pat.first, encInts a.pat.skip, encInts a.pat.dbl, D.int IntKind.i64 a.next, (D.agg [D.int IntKind.i64 (0 : Int), D.int IntKind.i64 (0 : Int), D.int IntKind.i64 (0 : Int), D.int IntKind.i64 (0 : Int), D.int IntKind.i64 (0 : Int), D.int IntKind.i64 (0 : Int)]).slice (List.map encIss a.iss)])), (1, T.val (D.agg [D.int IntKind.i64 b.rcd, D.int IntKind.i64 b.pat.start, D.int IntKind.i64 b.pat.every, D.int IntKind.i64 b.pat.per, D.int IntKind.i64 b.pat.first, encInts b.pat.skip, encInts b.pat.dbl, D.int IntKind.i64 b.next, (D.agg [D.int IntKind.i64 (0 : Int), D.int IntKind.i64 (0 : Int), D.int IntKind.i64 (0 : Int), D.int IntKind.i64 (0 : Int), D.int IntKind.i64 (0 : Int), D.int IntKind.i64 (0 : Int)]).slice (List.map encIss b.iss)])), (2, T.box [C.d (D.int IntKind.i64 a.rcd), C.d (D.int IntKind.i64 a.pat.start), C.d (D.int IntKind.i64 a.pat.every), C.d (D.int IntKind.i64 a.pat.per), C.d (D.int IntKind.i64 a.pat.first), C.d (encInts a.pat.skip), C.d (encInts a.pat.dbl), C.d (D.int IntKind.i64 a.next), C.d ((D.agg [D.int IntKind.i64 (0 : Int), D.int IntKind.i64 (0 : Int), D.int IntKind.i64 (0 : Int), D.int IntKind.i64 (0 : Int), D.int IntKind.i64 (0 : Int), D.int IntKind.i64 (0 : Int)]).slice (List.map encIss a.iss))]), (3, T.box [C.d (D.int IntKind.i64 b.rcd), C.d (D.int IntKind.i64 b.pat.start), C.d (D.int IntKind.i64 b.pat.every), C.d (D.int IntKind.i64 b.pat.per), C.d (D.int IntKind.i64 b.pat.first), C.d (encInts b.pat.skip), C.d (encInts b.pat.dbl), C.d (D.int IntKind.i64 b.next), C.d ((D.agg [D.int IntKind.i64 (0 : Int), D.int IntKind.i64 (0 : Int), D.int IntKind.i64 (0 : Int), D.int IntKind.i64 (0 : Int), D.int IntKind.i64 (0 : Int), D.int IntKind.i64 (0 : Int)]).slice (List.map encIss b.iss))]), (5, T.val (D.int IntKind.i64 ↑k)), (7, T.box [C.d (D.int IntKind.i64 (0 : Int)), C.d (D.int IntKind.i64 (0 : Int)), C.d (D.int IntKind.i64 (0 : Int)), C.d (D.int IntKind.i64 (0 : Int)), C.d (D.int IntKind.i64 (0 : Int)), C.d (D.int IntKind.i64 (0 : Int))]), (24, T.val (D.int IntKind.i64 ↑a.iss.length)), (25, T.val (D.int IntKind.i64 ↑k)), (26, T.val (D.bool true)), (31, T.val (D.ref [D.int IntKind.i64 x.vol, D.int IntKind.i64 x.num, D.int IntKind.i64 x.last, D.int IntKind.i64 x.day, D.int IntKind.i64 x.st, D.int IntKind.i64 x.item])), (33, T.ptr 3 8), (35, T.val (D.int IntKind.i64 ↑k))] ?_ fun h_1_11 => ?_
        · skip
          refine coreS.step E_ok [4, 6, 10] (by kernel_rfl) (by simp) ?_
          refine anyS.cons rfl ?_ ?_
          · skip
            simp [encSer_eq, encIsss_eq, encIss_eq, zIss, h26, hy1, hy2, hkb, hx, hxx]
            try simp (disch := omega) only [wrap_i64]
            repeat refine ⟨by first | omega | assumption | (simp only [maxLen]; omega) | (intros; omega) | decide, ?_⟩
            exact contS.mk (by simp [Weak, TW, T.plain, encSer_eq, encIsss_eq, encIss_eq, zIss]) h_1_4_11 (by kernel_rfl)
          refine anyS.cons rfl ?_ ?_
          · skip
            simp [encSer_eq, encIsss_eq, encIss_eq, zIss, h26, hy1, hy2, hkb, hx, hxx]
            try simp (disch := omega) only [wrap_i64]
            repeat refine ⟨by first | omega | assumption | (simp only [maxLen]; omega) | (intros; omega) | decide, ?_⟩
            refine contS.now (f' := 6) (l' := #[true, true, true, true, false, true, true, true, false, false, false, true, false, false]) ?_ rfl (by kernel_rfl)
            refine coreS.dry E_ok (by kernel_rfl) 8 rfl rfl (by kernel_rfl) (by kernel_rfl) ?_
            simp [encSer_eq, encIsss_eq, encIss_eq, zIss, h26, hy1, hy2, hkb, hx, hxx]
            try simp (disch := omega) only [wrap_i64]
            repeat refine ⟨by first | omega | assumption | (simp only [maxLen]; omega) | (intros; omega) | decide, ?_⟩
            exact contS.mk (by simp [Weak, TW, T.plain, encSer_eq, encIsss_eq, encIss_eq, zIss]) h_1_6_11 (by kernel_rfl)
          refine anyS.cons rfl ?_ ?_
          · skip
            simp [encSer_eq, encIsss_eq, encIss_eq, zIss, h26, hy1, hy2, hkb, hx, hxx]
            try simp (disch := omega) only [wrap_i64]
            repeat refine ⟨by first | omega | assumption | (simp only [maxLen]; omega) | (intros; omega) | decide, ?_⟩
            exact contS.mk (by simp [Weak, TW, T.plain, encSer_eq, encIsss_eq, encIss_eq, zIss]) h_1_10_11 (by kernel_rfl)
          exact anyS.nil
        refine contS.cut 7 #[true, false, true, false, false, true, true, true, true, true, false, false, false, false] [(0, T.val (D.agg [D.int IntKind.i64 a.rcd, D.int IntKind.i64 a.pat.start, D.int IntKind.i64 a.pat.every, D.int IntKind.i64 a.pat.per, D.int IntKind.i64 a.pat.first, encInts a.pat.skip, encInts a.pat.dbl, D.int IntKind.i64 a.next, (D.agg [D.int IntKind.i64 (0 : Int), D.int IntKind.i64 (0 : Int), D.int IntKind.i64 (0 : Int), D.int IntKind.i64 (0 : Int), D.int IntKind.i64 (0 : Int), D.int IntKind.i64 (0 : Int)]).slice (List.map encIss a.iss)])), (1, T.val (D.agg [D.int IntKind.i64 b.rcd, D.int IntKind.i64 b.pat.start, D.int IntKind.i64 b.pat.every, D.int IntKind.i64 b.pat.per, D.int IntKind.i64 b.pat.first, encInts b.pat.skip, encInts b.pat.dbl, D.int IntKind.i64 b.next, (D.agg [D.int IntKind.i64 (0 : Int), D.int IntKind.i64 (0 : Int), D.int IntKind.i64 (0 : Int), D.int IntKind.i64 (0 : Int), D.int IntKind.i64 (0 : Int), D.int IntKind.i64 (0 : Int)]).slice (List.map encIss b.iss)])), (2, T.box [C.d (D.int IntKind.i64 a.rcd), C.d (D.int IntKind.i64 a.pat.start), C.d (D.int IntKind.i64 a.pat.every), C.d (D.int IntKind.i64 a.pat.per), C.d (D.int IntKind.i64 a.pat.first), C.d (encInts a.pat.skip), C.d (encInts a.pat.dbl), C.d (D.int IntKind.i64 a.next), C.d ((D.agg [D.int IntKind.i64 (0 : Int), D.int IntKind.i64 (0 : Int), D.int IntKind.i64 (0 : Int), D.int IntKind.i64 (0 : Int), D.int IntKind.i64 (0 : Int), D.int IntKind.i64 (0 : Int)]).slice (List.map encIss a.iss))]), (3, T.box [C.d (D.int IntKind.i64 b.rcd), C.d (D.int IntKind.i64 b.pat.start), C.d (D.int IntKind.i64 b.pat.every), C.d (D.int IntKind.i64 b.pat.per), C.d (D.int IntKind.i64 b.pat.first), C.d (encInts b.pat.skip), C.d (encInts b.pat.dbl), C.d (D.int IntKind.i64 b.next), C.d ((D.agg [D.int IntKind.i64 (0 : Int), D.int IntKind.i64 (0 : Int), D.int IntKind.i64 (0 : Int), D.int IntKind.i64 (0 : Int), D.int IntKind.i64 (0 : Int), D.int IntKind.i64 (0 : Int)]).slice (List.map encIss b.iss))]), (5, T.val (D.int IntKind.i64 ↑k)), (24, T.val (D.int IntKind.i64 ↑a.iss.length)), (25, T.val (D.int IntKind.i64 ↑k)), (26, T.val (D.bool true)), (28, T.ptr 2 8), (30, T.val (D.int IntKind.i64 ↑k)), (37, T.val (D.agg [D.int IntKind.i64 y.vol, D.int IntKind.i64 y.num, D.int IntKind.i64 y.last, D.int IntKind.i64 y.day, D.int IntKind.i64 y.st, D.int IntKind.i64 y.item]))] ?_ fun h_6_9 => ?_
        · skip
          refine coreS.step E_ok [1, 10, 11] (by kernel_rfl) (by simp) ?_
          refine anyS.cons rfl ?_ ?_
          · skip
            simp [encSer_eq, encIsss_eq, encIss_eq, zIss, h26, hy1, hy2, hkb, hx, hxx]
            try simp (disch := omega) only [wrap_i64]
            repeat refine ⟨by first | omega | assumption | (simp only [maxLen]; omega) | (intros; omega) | decide, ?_⟩
            refine contS.now (f' := 6) (l' := #[true, true, true, false, false, true, true, true, true, true, false, false, false, false]) ?_ rfl (by kernel_rfl)
            refine coreS.dry E_ok (by kernel_rfl) 3 rfl rfl (by kernel_rfl) (by kernel_rfl) ?_
            simp [encSer_eq, encIsss_eq, encIss_eq, zIss, h26, hy1, hy2, hkb, hx, hxx]
            try simp (disch := omega) only [wrap_i64]
            repeat refine ⟨by first | omega | assumption | (simp only [maxLen]; omega) | (intros; omega) | decide, ?_⟩
            exact contS.mk (by simp [Weak, TW, T.plain, encSer_eq, encIsss_eq, encIss_eq, zIss]) h_1_6_9 (by kernel_rfl)
          refine anyS.cons rfl ?_ ?_
          · skip
            simp [encSer_eq, encIsss_eq, encIss_eq, zIss, h26, hy1, hy2, hkb, hx, hxx]
            try simp (disch := omega) only [wrap_i64]
            repeat refine ⟨by first | omega | assumption | (simp only [maxLen]; omega) | (intros; omega) | decide, ?_⟩
            exact contS.mk (by simp [Weak, TW, T.plain, encSer_eq, encIsss_eq, encIss_eq, zIss]) h_6_9_10 (by kernel_rfl)
          refine anyS.cons rfl ?_ ?_
          · skip
            simp [encSer_eq, encIsss_eq, encIss_eq, zIss, h26, hy1, hy2, hkb, hx, hxx]
            try simp (disch := omega) only [wrap_i64]
            repeat refine ⟨by first | omega | assumption | (simp only [maxLen]; omega) | (intros; omega) | decide, ?_⟩
            exact contS.mk (by simp [Weak, TW, T.plain, encSer_eq, encIsss_eq, encIss_eq, zIss]) h_6_9_11 (by kernel_rfl)
          exact anyS.nil
        refine contS.cut 7 #[true, false, true, false, false, true, true, true, true, false, true, false, false, false] [(0, T.val (D.agg [D.int IntKind.i64 a.rcd, D.int IntKind.i64 a.pat.start, D.int IntKind.i64 a.pat.every, D.int IntKind.i64 a.pat.per, D.int IntKind.i64 a.pat.first, encInts a.pat.skip, encInts a.pat.dbl, D.int IntKind.i64 a.next, (D.agg [D.int IntKind.i64 (0 : Int), D.int IntKind.i64 (0 : Int), D.int IntKind.i64 (0 : Int), D.int IntKind.i64 (0 : Int), D.int IntKind.i64 (0 : Int), D.int IntKind.i64 (0 : Int)]).slice (List.map encIss a.iss)])), (1, T.val (D.agg [D.int IntKind.i64 b.rcd, D.int IntKind.i64 b.pat.start, D.int IntKind.i64 b.pat.every, D.int IntKind.i64 b.pat.per, D.int IntKind.i64 b.pat.first, encInts b.pat.skip, encInts b.pat.dbl, D.int IntKind.i64 b.next, (D.agg [D.int IntKind.i64 (0 : Int), D.int IntKind.i64 (0 : Int), D.int IntKind.i64 (0 : Int), D.int IntKind.i64 (0 : Int), D.int IntKind.i64 (0 : Int), D.int IntKind.i64 (0 : Int)]).slice (List.map encIss b.iss)])), (2, T.box [C.d (D.int IntKind.i64 a.rcd), C.d (D.int IntKind.i64 a.pat.start), C.d (D.int IntKind.i64 a.pat.every), C.d (D.int IntKind.i64 a.pat.per), C.d (D.int IntKind.i64 a.pat.first), C.d (encInts a.pat.skip), C.d (encInts a.pat.dbl), C.d (D.int IntKind.i64 a.next), C.d ((D.agg [D.int IntKind.i64 (0 : Int), D.int IntKind.i64 (0 : Int), D.int IntKind.i64 (0 : Int), D.int IntKind.i64 (0 : Int), D.int IntKind.i64 (0 : Int), D.int IntKind.i64 (0 : Int)]).slice (List.map encIss a.iss))]), (3, T.box [C.d (D.int IntKind.i64 b.rcd), C.d (D.int IntKind.i64 b.pat.start), C.d (D.int IntKind.i64 b.pat.every), C.d (D.int IntKind.i64 b.pat.per), C.d (D.int IntKind.i64 b.pat.first), C.d (encInts b.pat.skip), C.d (encInts b.pat.dbl), C.d (D.int IntKind.i64 b.next), C.d ((D.agg [D.int IntKind.i64 (0 : Int), D.int IntKind.i64 (0 : Int), D.int IntKind.i64 (0 : Int), D.int IntKind.i64 (0 : Int), D.int IntKind.i64 (0 : Int), D.int IntKind.i64 (0 : Int)]).slice (List.map encIss b.iss))]), (5, T.val (D.int IntKind.i64 ↑k)), (6, T.box [C.d (D.int IntKind.i64 (0 : Int)), C.d (D.int IntKind.i64 (0 : Int)), C.d (D.int IntKind.i64 (0 : Int)), C.d (D.int IntKind.i64 (0 : Int)), C.d (D.int IntKind.i64 (0 : Int)), C.d (D.int IntKind.i64 (0 : Int))]), (24, T.val (D.int IntKind.i64 ↑a.iss.length)), (25, T.val (D.int IntKind.i64 ↑k)), (26, T.val (D.bool true)), (28, T.ptr 2 8), (30, T.val (D.int IntKind.i64 ↑k)), (36, T.val (D.ref [D.int IntKind.i64 y.vol, D.int IntKind.i64 y.num, D.int IntKind.i64 y.last, D.int IntKind.i64 y.day, D.int IntKind.i64 y.st, D.int IntKind.i64 y.item]))] ?_ fun h_6_10 => ?_
        · skip
          refine coreS.step E_ok [1, 9, 11] (by kernel_rfl) (by simp) ?_
          refine anyS.cons rfl ?_ ?_
          · skip
            simp [encSer_eq, encIsss_eq, encIss_eq, zIss, h26, hy1, hy2, hkb, hx, hxx]
            try simp (disch := omega) only [wrap_i64]
            repeat refine ⟨by first | omega | assumption | (simp only [maxLen]; omega) | (intros; omega) | decide, ?_⟩
            refine contS.now (f' := 6) (l' := #[true, true, true, false, false, true, true, true, true, false, true, false, false, false]) ?_ rfl (by kernel_rfl)
            refine coreS.dry E_ok (by kernel_rfl) 3 rfl rfl (by kernel_rfl) (by kernel_rfl) ?_
            simp [encSer_eq, encIsss_eq, encIss_eq, zIss, h26, hy1, hy2, hkb, hx, hxx]
            try simp (disch := omega) only [wrap_i64]
            repeat refine ⟨by first | omega | assumption | (simp only [maxLen]; omega) | (intros; omega) | decide, ?_⟩
            exact contS.mk (by simp [Weak, TW, T.plain, encSer_eq, encIsss_eq, encIss_eq, zIss]) h_1_6_10 (by kernel_rfl)
          refine anyS.cons rfl ?_ ?_
          · skip
            simp [encSer_eq, encIsss_eq, encIss_eq, zIss, h26, hy1, hy2, hkb, hx, hxx]
            try simp (disch := omega) only [wrap_i64]
            repeat refine ⟨by first | omega | assumption | (simp only [maxLen]; omega) | (intros; omega) | decide, ?_⟩
            exact contS.mk (by simp [Weak, TW, T.plain, encSer_eq, encIsss_eq, encIss_eq, zIss]) h_6_9_10 (by kernel_rfl)
          refine anyS.cons rfl ?_ ?_
          · skip
            simp [encSer_eq, encIsss_eq, encIss_eq, zIss, h26, hy1, hy2, hkb, hx, hxx]
            try simp (disch := omega) only [wrap_i64]
            repeat refine ⟨by first | omega | assumption | (simp only [maxLen]; omega) | (intros; omega) | decide, ?_⟩
            exact contS.mk (by simp [Weak, TW, T.plain, encSer_eq, encIsss_eq, encIss_eq, zIss]) h_6_10_11 (by kernel_rfl)
          exact anyS.nil
        refine contS.cut 7 #[true, false, true, false, false, true, true, true, true, false, false, true, false, false] [(0, T.val (D.agg [D.int IntKind.i64 a.rcd, D.int IntKind.i64 a.pat.start, D.int IntKind.i64 a.pat.every, D.int IntKind.i64 a.pat.per, D.int IntKind.i64 a.pat.first, encInts a.pat.skip, encInts a.pat.dbl, D.int IntKind.i64 a.next, (D.agg [D.int IntKind.i64 (0 : Int), D.int IntKind.i64 (0 : Int), D.int IntKind.i64 (0 : Int), D.int IntKind.i64 (0 : Int), D.int IntKind.i64 (0 : Int), D.int IntKind.i64 (0 : Int)]).slice (List.map encIss a.iss)])), (1, T.val (D.agg [D.int IntKind.i64 b.rcd, D.int IntKind.i64 b.pat.start, D.int IntKind.i64 b.pat.every, D.int IntKind.i64 b.pat.per, D.int IntKind.i64 b.pat.first, encInts b.pat.skip, encInts b.pat.dbl, D.int IntKind.i64 b.next, (D.agg [D.int IntKind.i64 (0 : Int), D.int IntKind.i64 (0 : Int), D.int IntKind.i64 (0 : Int), D.int IntKind.i64 (0 : Int), D.int IntKind.i64 (0 : Int), D.int IntKind.i64 (0 : Int)]).slice (List.map encIss b.iss)])), (2, T.box [C.d (D.int IntKind.i64 a.rcd), C.d (D.int IntKind.i64 a.pat.start), C.d (D.int IntKind.i64 a.pat.every), C.d (D.int IntKind.i64 a.pat.per), C.d (D.int IntKind.i64 a.pat.first), C.d (encInts a.pat.skip), C.d (encInts a.pat.dbl), C.d (D.int IntKind.i64 a.next), C.d ((D.agg [D.int IntKind.i64 (0 : Int), D.int IntKind.i64 (0 : Int), D.int IntKind.i64 (0 : Int), D.int IntKind.i64 (0 : Int), D.int IntKind.i64 (0 : Int), D.int IntKind.i64 (0 : Int)]).slice (List.map encIss a.iss))]), (3, T.box [C.d (D.int IntKind.i64 b.rcd), C.d (D.int IntKind.i64 b.pat.start), C.d (D.int IntKind.i64 b.pat.every), C.d (D.int IntKind.i64 b.pat.per), C.d (D.int IntKind.i64 b.pat.first), C.d (encInts b.pat.skip), C.d (encInts b.pat.dbl), C.d (D.int IntKind.i64 b.next), C.d ((D.agg [D.int IntKind.i64 (0 : Int), D.int IntKind.i64 (0 : Int), D.int IntKind.i64 (0 : Int), D.int IntKind.i64 (0 : Int), D.int IntKind.i64 (0 : Int), D.int IntKind.i64 (0 : Int)]).slice (List.map encIss b.iss))]), (5, T.val (D.int IntKind.i64 ↑k)), (7, T.box [C.d (D.int IntKind.i64 (0 : Int)), C.d (D.int IntKind.i64 (0 : Int)), C.d (D.int IntKind.i64 (0 : Int)), C.d (D.int IntKind.i64 (0 : Int)), C.d (D.int IntKind.i64 (0 : Int)), C.d (D.int IntKind.i64 (0 : Int))]), (24, T.val (D.int IntKind.i64 ↑a.iss.length)), (25, T.val (D.int IntKind.i64 ↑k)), (26, T.val (D.bool true)), (28, T.ptr 2 8), (30, T.val (D.int IntKind.i64 ↑k)), (36, T.val (D.ref [D.int IntKind.i64 y.vol, D.int IntKind.i64 y.num, D.int IntKind.i64 y.last, D.int IntKind.i64 y.day, D.int IntKind.i64 y.st, D.int IntKind.i64 y.item]))] ?_ fun h_6_11 => ?_
        · skip
          refine coreS.step E_ok [1, 9, 10] (by kernel_rfl) (by simp) ?_
          refine anyS.cons rfl ?_ ?_
          · skip
            simp [encSer_eq, encIsss_eq, encIss_eq, zIss, h26, hy1, hy2, hkb, hx, hxx]
            try simp (disch := omega) only [wrap_i64]
            repeat refine ⟨by first | omega | assumption | (simp only [maxLen]; omega) | (intros; omega) | decide, ?_⟩
            refine contS.now (f' := 6) (l' := #[true, true, true, false, false, true, true, true, true, false, false, true, false, false]) ?_ rfl (by kernel_rfl)
            refine coreS.dry E_ok (by kernel_rfl) 3 rfl rfl (by kernel_rfl) (by kernel_rfl) ?_
            simp [encSer_eq, encIsss_eq, encIss_eq, zIss, h26, hy1, hy2, hkb, hx, hxx]
            try simp (disch := omega) only [wrap_i64]
            repeat refine ⟨by first | omega | assumption | (simp only [maxLen]; omega) | (intros; omega) | decide, ?_⟩
            exact contS.mk (by simp [Weak, TW, T.plain, encSer_eq, encIsss_eq, encIss_eq, zIss]) h_1_6_11 (by kernel_rfl)
          refine anyS.cons rfl ?_ ?_
          · skip
            simp [encSer_eq, encIsss_eq, encIss_eq, zIss, h26, hy1, hy2, hkb, hx, hxx]
            try simp (disch := omega) only [wrap_i64]
            repeat refine ⟨by first | omega | assumption | (simp only [maxLen]; omega) | (intros; omega) | decide, ?_⟩
            exact contS.mk (by simp [Weak, TW, T.plain, encSer_eq, encIsss_eq, encIss_eq, zIss]) h_6_9_11 (by kernel_rfl)
          refine anyS.cons rfl ?_ ?_
          · skip
            simp [encSer_eq, encIsss_eq, encIss_eq, zIss, h26, hy1, hy2, hkb, hx, hxx]
            try simp (disch := omega) only [wrap_i64]
            repeat refine ⟨by first | omega | assumption | (simp only [maxLen]; omega) | (intros; omega) | decide, ?_⟩
            exact contS.mk (by simp [Weak, TW, T.plain, encSer_eq, encIsss_eq, encIss_eq, zIss]) h_6_10_11 (by kernel_rfl)
          exact anyS.nil
        refine contS.cut 8 #[true, true, true, true, false, true, false, true, false, false, false, false, false, false] [(0, T.val (D.agg [D.int IntKind.i64 a.rcd, D.int IntKind.i64 a.pat.start, D.int IntKind.i64 a.pat.every, D.int IntKind.i64 a.pat.per, D.int IntKind.i64 a.pat.first, encInts a.pat.skip, encInts a.pat.dbl, D.int IntKind.i64 a.next, (D.agg [D.int IntKind.i64 (0 : Int), D.int IntKind.i64 (0 : Int), D.int IntKind.i64 (0 : Int), D.int IntKind.i64 (0 : Int), D.int IntKind.i64 (0 : Int), D.int IntKind.i64 (0 : Int)]).slice (List.map encIss a.iss)])), (1, T.val (D.agg [D.int IntKind.i64 b.rcd, D.int IntKind.i64 b.pat.start, D.int IntKind.i64 b.pat.every, D.int IntKind.i64 b.pat.per, D.int IntKind.i64 b.pat.first, encInts b.pat.skip, encInts b.pat.dbl, D.int IntKind.i64 b.next, (D.agg [D.int IntKind.i64 (0 : Int), D.int IntKind.i64 (0 : Int), D.int IntKind.i64 (0 : Int), D.int IntKind.i64 (0 : Int), D.int IntKind.i64 (0 : Int), D.int IntKind.i64 (0 : Int)]).slice (List.map encIss b.iss)])), (2, T.box [C.d (D.int IntKind.i64 a.rcd), C.d (D.int IntKind.i64 a.pat.start), C.d (D.int IntKind.i64 a.pat.every), C.d (D.int IntKind.i64 a.pat.per), C.d (D.int IntKind.i64 a.pat.first), C.d (encInts a.pat.skip), C.d (encInts a.pat.dbl), C.d (D.int IntKind.i64 a.next), C.d ((D.agg [D.int IntKind.i64 (0 : Int), D.int IntKind.i64 (0 : Int), D.int IntKind.i64 (0 : Int), D.int IntKind.i64 (0 : Int), D.int IntKind.i64 (0 : Int), D.int IntKind.i64 (0 : Int)]).slice (List.map encIss a.iss))]), (3, T.box [C.d (D.int IntKind.i64 b.rcd), C.d (D.int IntKind.i64 b.pat.start), C.d (D.int IntKind.i64 b.pat.every), C.d (D.int IntKind.i64 b.pat.per), C.d (D.int IntKind.i64 b.pat.first), C.d (encInts b.pat.skip), C.d (encInts b.pat.dbl), C.d (D.int IntKind.i64 b.next), C.d ((D.agg [D.int IntKind.i64 (0 : Int), D.int IntKind.i64 (0 : Int), D.int IntKind.i64 (0 : Int), D.int IntKind.i64 (0 : Int), D.int IntKind.i64 (0 : Int), D.int IntKind.i64 (0 : Int)]).slice (List.map encIss b.iss))]), (5, T.val (D.int IntKind.i64 ↑k)), (24, T.val (D.int IntKind.i64 ↑a.iss.length)), (25, T.val (D.int IntKind.i64 ↑k)), (26, T.val (D.bool true)), (31, T.val (D.ref [D.int IntKind.i64 x.vol, D.int IntKind.i64 x.num, D.int IntKind.i64 x.last, D.int IntKind.i64 x.day, D.int IntKind.i64 x.st, D.int IntKind.i64 x.item])), (33, T.ptr 3 8), (35, T.val (D.int IntKind.i64 ↑k))] ?_ fun h_1 => ?_
        · skip
          refine coreS.step E_ok [4, 6, 10, 11] (by kernel_rfl) (by simp) ?_
          refine anyS.cons rfl ?_ ?_
          · skip
            simp [encSer_eq, encIsss_eq, encIss_eq, zIss, h26, hy1, hy2, hkb, hx, hxx]
            try simp (disch := omega) only [wrap_i64]
            repeat refine ⟨by first | omega | assumption | (simp only [maxLen]; omega) | (intros; omega) | decide, ?_⟩
            exact contS.mk (by simp [Weak, TW, T.plain, encSer_eq, encIsss_eq, encIss_eq, zIss]) h_1_4 (by kernel_rfl)
          refine anyS.cons rfl ?_ ?_
          · skip
            simp [encSer_eq, encIsss_eq, encIss_eq, zIss, h26, hy1, hy2, hkb, hx, hxx]
            try simp (disch := omega) only [wrap_i64]
            repeat refine ⟨by first | omega | assumption | (simp only [maxLen]; omega) | (intros; omega) | decide, ?_⟩
            refine contS.now (f' := 7) (l' := #[true, true, true, true, false, true, true, true, false, false, false, false, false, false]) ?_ rfl (by kernel_rfl)
            refine coreS.dry E_ok (by kernel_rfl) 8 rfl rfl (by kernel_rfl) (by kernel_rfl) ?_
            simp [encSer_eq, encIsss_eq, encIss_eq, zIss, h26, hy1, hy2, hkb, hx, hxx]
            try simp (disch := omega) only [wrap_i64]
            repeat refine ⟨by first | omega | assumption | (simp only [maxLen]; omega) | (intros; omega) | decide, ?_⟩
            exact contS.mk (by simp [Weak, TW, T.plain, encSer_eq, encIsss_eq, encIss_eq, zIss]) h_1_6 (by kernel_rfl)
          refine anyS.cons rfl ?_ ?_
          · skip
            simp [encSer_eq, encIsss_eq, encIss_eq, zIss, h26, hy1, hy2, hkb, hx, hxx]
            try simp (disch := omega) only [wrap_i64]
            repeat refine ⟨by first | omega | assumption | (simp only [maxLen]; omega) | (intros; omega) | decide, ?_⟩
            exact contS.mk (by simp [Weak, TW, T.plain, encSer_eq, encIsss_eq, encIss_eq, zIss]) h_1_10 (by kernel_rfl)
          refine anyS.cons rfl ?_ ?_
          · skip
            simp [encSer_eq, encIsss_eq, encIss_eq, zIss, h26, hy1, hy2, hkb, hx, hxx]
            try simp (disch := omega) only [wrap_i64]
            repeat refine ⟨by first | omega | assumption | (simp only [maxLen]; omega) | (intros; omega) | decide, ?_⟩
            exact contS.mk (by simp [Weak, TW, T.plain, encSer_eq, encIsss_eq, encIss_eq, zIss]) h_1_11 (by kernel_rfl)
          exact anyS.nil
        refine contS.cut 8 #[true, false, true, false, false, true, true, true, true, false, false, false, false, false] [(0, T.val (D.agg [D.int IntKind.i64 a.rcd, D.int IntKind.i64 a.pat.start, D.int IntKind.i64 a.pat.every, D.int IntKind.i64 a.pat.per, D.int IntKind.i64 a.pat.first, encInts a.pat.skip, encInts a.pat.dbl, D.int IntKind.i64 a.next, (D.agg [D.int IntKind.i64 (0 : Int), D.int IntKind.i64 (0 : Int), D.int IntKind.i64 (0 : Int), D.int IntKind.i64 (0 : Int), D.int IntKind.i64 (0 : Int), D.int IntKind.i64 (0 : Int)]).slice (List.map encIss a.iss)])), (1, T.val (D.agg [D.int IntKind.i64 b.rcd, D.int IntKind.i64 b.pat.start, D.int IntKind.i64 b.pat.every, D.int IntKind.i64 b.pat.per, D.int IntKind.i64 b.pat.first, encInts b.pat.skip, encInts b.pat.dbl, D.int IntKind.i64 b.next, (D.agg [D.int IntKind.i64 (0 : Int), D.int IntKind.i64 (0 : Int), D.int IntKind.i64 (0 : Int), D.int IntKind.i64 (0 : Int), D.int IntKind.i64 (0 : Int), D.int IntKind.i64 (0 : Int)]).slice (List.map encIss b.iss)])), (2, T.box [C.d (D.int IntKind.i64 a.rcd), C.d (D.int IntKind.i64 a.pat.start), C.d (D.int IntKind.i64 a.pat.every), C.d (D.int IntKind.i64 a.pat.per), C.d (D.int IntKind.i64 a.pat.first), C.d (encInts a.pat.skip), C.d (encInts a.pat.dbl), C.d (D.int IntKind.i64 a.next), C.d ((D.agg [D.int IntKind.i64 (0 : Int), D.int IntKind.i64 (0 : Int), D.int IntKind.i64 (0 : Int), D.int IntKind.i64 (0 : Int), D.int IntKind.i64 (0 : Int), D.int IntKind.i64 (0 : Int)]).slice (List.map encIss a.iss))]), (3, T.box [C.d (D.int IntKind.i64 b.rcd), C.d (D.int IntKind.i64 b.pat.start), C.d (D.int IntKind.i64 b.pat.every), C.d (D.int IntKind.i64 b.pat.per), C.d (D.int IntKind.i64 b.pat.first), C.d (encInts b.pat.skip), C.d (encInts b.pat.dbl), C.d (D.int IntKind.i64 b.next), C.d ((D.agg [D.int IntKind.i64 (0 : Int), D.int IntKind.i64 (0 : Int), D.int IntKind.i64 (0 : Int), D.int IntKind.i64 (0 : Int), D.int IntKind.i64 (0 : Int), D.int IntKind.i64 (0 : Int)]).slice (List.map encIss b.iss))]), (5, T.val (D.int IntKind.i64 ↑k)), (24, T.val (D.int IntKind.i64 ↑a.iss.length)), (25, T.val (D.int IntKind.i64 ↑k)), (26, T.val (D.bool true)), (28, T.ptr 2 8), (30, T.val (D.int IntKind.i64 ↑k)), (36, T.val (D.ref [D.int IntKind.i64 y.vol, D.int IntKind.i64 y.num, D.int IntKind.i64 y.last, D.int IntKind.i64 y.day, D.int IntKind.i64 y.st, D.int IntKind.i64 y.item]))] ?_ fun h_6 => ?_
        · skip
          refine coreS.step E_ok [1, 9, 10, 11] (by kernel_rfl) (by simp) ?_
          refine anyS.cons rfl ?_ ?_
          · skip
            simp [encSer_eq, encIsss_eq, encIss_eq, zIss, h26, hy1, hy2, hkb, hx, hxx]
            try simp (disch := omega) only [wrap_i64]
            repeat refine ⟨by first | omega | assumption | (simp only [maxLen]; omega) | (intros; omega) | decide, ?_⟩
            refine contS.now (f' := 7) (l' := #[true, true, true, false, false, true, true, true, true, false, false, false, false, false]) ?_ rfl (by kernel_rfl)
            refine coreS.dry E_ok (by kernel_rfl) 3 rfl rfl (by kernel_rfl) (by kernel_rfl) ?_
            simp [encSer_eq, encIsss_eq, encIss_eq, zIss, h26, hy1, hy2, hkb, hx, hxx]
            try simp (disch := omega) only [wrap_i64]
            repeat refine ⟨by first | omega | assumption | (simp only [maxLen]; omega) | (intros; omega) | decide, ?_⟩
            exact contS.mk (by simp [Weak, TW, T.plain, encSer_eq, encIsss_eq, encIss_eq, zIss]) h_1_6 (by kernel_rfl)
          refine anyS.cons rfl ?_ ?_
          · skip
            simp [encSer_eq, encIsss_eq, encIss_eq, zIss, h26, hy1, hy2, hkb, hx, hxx]
            try simp (disch := omega) only [wrap_i64]
            repeat refine ⟨by first | omega | assumption | (simp only [maxLen]; omega) | (intros; omega) | decide, ?_⟩
            exact contS.mk (by simp [Weak, TW, T.plain, encSer_eq, encIsss_eq, encIss_eq, zIss]) h_6_9 (by kernel_rfl)
          refine anyS.cons rfl ?_ ?_
          · skip
            simp [encSer_eq, encIsss_eq, encIss_eq, zIss, h26, hy1, hy2, hkb, hx, hxx]
            try simp (disch := omega) only [wrap_i64]
            repeat refine ⟨by first | omega | assumption | (simp only [maxLen]; omega) | (intros; omega) | decide, ?_⟩
            exact contS.mk (by simp [Weak, TW, T.plain, encSer_eq, encIsss_eq, encIss_eq, zIss]) h_6_10 (by kernel_rfl)
          refine anyS.cons rfl ?_ ?_
          · skip
            simp [encSer_eq, encIsss_eq, encIss_eq, zIss, h26, hy1, hy2, hkb, hx, hxx]
            try simp (disch := omega) only [wrap_i64]
            repeat refine ⟨by first | omega | assumption | (simp only [maxLen]; omega) | (intros; omega) | decide, ?_⟩
            exact contS.mk (by simp [Weak, TW, T.plain, encSer_eq, encIsss_eq, encIss_eq, zIss]) h_6_11 (by kernel_rfl)
          exact anyS.nil
        refine contS.cut 8 #[true, false, true, false, false, true, false, true, false, false, true, true, false, false] [(0, T.val (D.agg [D.int IntKind.i64 a.rcd, D.int IntKind.i64 a.pat.start, D.int IntKind.i64 a.pat.every, D.int IntKind.i64 a.pat.per, D.int IntKind.i64 a.pat.first, encInts a.pat.skip, encInts a.pat.dbl, D.int IntKind.i64 a.next, (D.agg [D.int IntKind.i64 (0 : Int), D.int IntKind.i64 (0 : Int), D.int IntKind.i64 (0 : Int), D.int IntKind.i64 (0 : Int), D.int IntKind.i64 (0 : Int), D.int IntKind.i64 (0 : Int)]).slice (List.map encIss a.iss)])), (1, T.val (D.agg [D.int IntKind.i64 b.rcd, D.int IntKind.i64 b.pat.start, D.int IntKind.i64 b.pat.every, D.int IntKind.i64 b.pat.per, D.int IntKind.i64 b.pat.first, encInts b.pat.skip, encInts b.pat.dbl, D.int IntKind.i64 b.next, (D.agg [D.int IntKind.i64 (0 : Int), D.int IntKind.i64 (0 : Int), D.int IntKind.i64 (0 : Int), D.int IntKind.i64 (0 : Int), D.int IntKind.i64 (0 : Int), D.int IntKind.i64 (0 : Int)]).slice (List.map encIss b.iss)])), (2, T.box [C.d (D.int IntKind.i64 a.rcd), C.d (D.int IntKind.i64 a.pat.start), C.d (D.int IntKind.i64 a.pat.every), C.d (D.int IntKind.i64 a.pat.per), C.d (D.int IntKind.i64 a.pat.first), C.d (encInts a.pat.skip), C.d (encInts a.pat.dbl), C.d (D.int IntKind.i64 a.next), C.d ((D.agg [D.int IntKind.i64 (0 : Int), D.int IntKind.i64 (0 : Int), D.int IntKind.i64 (0 : Int), D.int IntKind.i64 (0 : Int), D.int IntKind.i64 (0 : Int), D.int IntKind.i64 (0 : Int)]).slice (List.map encIss a.iss))]), (3, T.box [C.d (D.int IntKind.i64 b.rcd), C.d (D.int IntKind.i64 b.pat.start), C.d (D.int IntKind.i64 b.pat.every), C.d (D.int IntKind.i64 b.pat.per), C.d (D.int IntKind.i64 b.pat.first), C.d (encInts b.pat.skip), C.d (encInts b.pat.dbl), C.d (D.int IntKind.i64 b.next), C.d ((D.agg [D.int IntKind.i64 (0 : Int), D.int IntKind.i64 (0 : Int), D.int IntKind.i64 (0 : Int), D.int IntKind.i64 (0 : Int), D.int IntKind.i64 (0 : Int), D.int IntKind.i64 (0 : Int)]).slice (List.map encIss b.iss))]), (5, T.val (D.int IntKind.i64 ↑k)), (6, T.box [C.d (D.int IntKind.i64 (0 : Int)), C.d (D.int IntKind.i64 (0 : Int)), C.d (D.int IntKind.i64 (0 : Int)), C.d (D.int IntKind.i64 (0 : Int)), C.d (D.int IntKind.i64 (0 : Int)), C.d (D.int IntKind.i64 (0 : Int))]), (7, T.box [C.d (D.int IntKind.i64 (0 : Int)), C.d (D.int IntKind.i64 (0 : Int)), C.d (D.int IntKind.i64 (0 : Int)), C.d (D.int IntKind.i64 (0 : Int)), C.d (D.int IntKind.i64 (0 : Int)), C.d (D.int IntKind.i64 (0 : Int))]), (24, T.val (D.int IntKind.i64 ↑a.iss.length)), (25, T.val (D.int IntKind.i64 ↑k)), (26, T.val (D.bool true)), (28, T.ptr 2 8), (30, T.val (D.int IntKind.i64 ↑k)), (33, T.ptr 3 8), (35, T.val (D.int IntKind.i64 ↑k))] ?_ fun h_10_11 => ?_
        · skip
          refine coreS.step E_ok [1, 6] (by kernel_rfl) (by simp) ?_
          refine anyS.cons rfl ?_ ?_
          · skip
            simp [encSer_eq, encIsss_eq, encIss_eq, zIss, h26, hy1, hy2, hkb, hx, hxx]
            try simp (disch := omega) only [wrap_i64]
            repeat refine ⟨by first | omega | assumption | (simp only [maxLen]; omega) | (intros; omega) | decide, ?_⟩
            refine contS.now (f' := 7) (l' := #[true, true, true, false, false, true, false, true, false, false, true, true, false, false]) ?_ rfl (by kernel_rfl)
            refine coreS.dry E_ok (by kernel_rfl) 3 rfl rfl (by kernel_rfl) (by kernel_rfl) ?_
            simp [encSer_eq, encIsss_eq, encIss_eq, zIss, h26, hy1, hy2, hkb, hx, hxx]
            try simp (disch := omega) only [wrap_i64]
            repeat refine ⟨by first | omega | assumption | (simp only [maxLen]; omega) | (intros; omega) | decide, ?_⟩
            exact contS.mk (by simp [Weak, TW, T.plain, encSer_eq, encIsss_eq, encIss_eq, zIss]) h_1_10_11 (by kernel_rfl)
          refine anyS.cons rfl ?_ ?_
          · skip
            simp [encSer_eq, encIsss_eq, encIss_eq, zIss, h26, hy1, hy2, hkb, hx, hxx]
            try simp (disch := omega) only [wrap_i64]
            repeat refine ⟨by first | omega | assumption | (simp only [maxLen]; omega) | (intros; omega) | decide, ?_⟩
            refine contS.now (f' := 7) (l' := #[true, false, true, false, false, true, true, true, false, false, true, true, false, false]) ?_ rfl (by kernel_rfl)
            refine coreS.dry E_ok (by kernel_rfl) 8 rfl rfl (by kernel_rfl) (by kernel_rfl) ?_
            simp [encSer_eq, encIsss_eq, encIss_eq, zIss, h26, hy1, hy2, hkb, hx, hxx]
            try simp (disch := omega) only [wrap_i64]
            repeat refine ⟨by first | omega | assumption | (simp only [maxLen]; omega) | (intros; omega) | decide, ?_⟩
            exact contS.mk (by simp [Weak, TW, T.plain, encSer_eq, encIsss_eq, encIss_eq, zIss]) h_6_10_11 (by kernel_rfl)
          exact anyS.nil
        refine contS.cut 9 #[true, false, true, false, false, true, false, true, false, false, true, false, false, false] [(0, T.val (D.agg [D.int IntKind.i64 a.rcd, D.int IntKind.i64 a.pat.start, D.int IntKind.i64 a.pat.every, D.int IntKind.i64 a.pat.per, D.int IntKind.i64 a.pat.first, encInts a.pat.skip, encInts a.pat.dbl, D.int IntKind.i64 a.next, (D.agg [D.int IntKind.i64 (0 : Int), D.int IntKind.i64 (0 : Int), D.int IntKind.i64 (0 : Int), D.int IntKind.i64 (0 : Int), D.int IntKind.i64 (0 : Int), D.int IntKind.i64 (0 : Int)]).slice (List.map encIss a.iss)])), (1, T.val (D.agg [D.int IntKind.i64 b.rcd, D.int IntKind.i64 b.pat.start, D.int IntKind.i64 b.pat.every, D.int IntKind.i64 b.pat.per, D.int IntKind.i64 b.pat.first, encInts b.pat.skip, encInts b.pat.dbl, D.int IntKind.i64 b.next, (D.agg [D.int IntKind.i64 (0 : Int), D.int IntKind.i64 (0 : Int), D.int IntKind.i64 (0 : Int), D.int IntKind.i64 (0 : Int), D.int IntKind.i64 (0 : Int), D.int IntKind.i64 (0 : Int)]).slice (List.map encIss b.iss)])), (2, T.box [C.d (D.int IntKind.i64 a.rcd), C.d (D.int IntKind.i64 a.pat.start), C.d (D.int IntKind.i64 a.pat.every), C.d (D.int IntKind.i64 a.pat.per), C.d (D.int IntKind.i64 a.pat.first), C.d (encInts a.pat.skip), C.d (encInts a.pat.dbl), C.d (D.int IntKind.i64 a.next), C.d ((D.agg [D.int IntKind.i64 (0 : Int), D.int IntKind.i64 (0 : Int), D.int IntKind.i64 (0 : Int), D.int IntKind.i64 (0 : Int), D.int IntKind.i64 (0 : Int), D.int IntKind.i64 (0 : Int)]).slice (List.map encIss a.iss))]), (3, T.box [C.d (D.int IntKind.i64 b.rcd), C.d (D.int IntKind.i64 b.pat.start), C.d (D.int IntKind.i64 b.pat.every), C.d (D.int IntKind.i64 b.pat.per), C.d (D.int IntKind.i64 b.pat.first), C.d (encInts b.pat.skip), C.d (encInts b.pat.dbl), C.d (D.int IntKind.i64 b.next), C.d ((D.agg [D.int IntKind.i64 (0 : Int), D.int IntKind.i64 (0 : Int), D.int IntKind.i64 (0 : Int), D.int IntKind.i64 (0 : Int), D.int IntKind.i64 (0 : Int), D.int IntKind.i64 (0 : Int)]).slice (List.map encIss b.iss))]), (5, T.val (D.int IntKind.i64 ↑k)), (6, T.box [C.d (D.int IntKind.i64 (0 : Int)), C.d (D.int IntKind.i64 (0 : Int)), C.d (D.int IntKind.i64 (0 : Int)), C.d (D.int IntKind.i64 (0 : Int)), C.d (D.int IntKind.i64 (0 : Int)), C.d (D.int IntKind.i64 (0 : Int))]), (24, T.val (D.int IntKind.i64 ↑a.iss.length)), (25, T.val (D.int IntKind.i64 ↑k)), (26, T.val (D.bool true)), (28, T.ptr 2 8), (30, T.val (D.int IntKind.i64 ↑k)), (33, T.ptr 3 8), (35, T.val (D.int IntKind.i64 ↑k))] ?_ fun h_10 => ?_
        · skip
          refine coreS.step E_ok [1, 6, 11] (by kernel_rfl) (by simp) ?_
          refine anyS.cons rfl ?_ ?_
          · skip
            simp [encSer_eq, encIsss_eq, encIss_eq, zIss, h26, hy1, hy2, hkb, hx, hxx]
            try simp (disch := omega) only [wrap_i64]
            repeat refine ⟨by first | omega | assumption | (simp only [maxLen]; omega) | (intros; omega) | decide, ?_⟩
            refine contS.now (f' := 8) (l' := #[true, true, true, false, false, true, false, true, false, false, true, false, false, false]) ?_ rfl (by kernel_rfl)
            refine coreS.dry E_ok (by kernel_rfl) 3 rfl rfl (by kernel_rfl) (by kernel_rfl) ?_
            simp [encSer_eq, encIsss_eq, encIss_eq, zIss, h26, hy1, hy2, hkb, hx, hxx]
            try simp (disch := omega) only [wrap_i64]
            repeat refine ⟨by first | omega | assumption | (simp only [maxLen]; omega) | (intros; omega) | decide, ?_⟩
            exact contS.mk (by simp [Weak, TW, T.plain, encSer_eq, encIsss_eq, encIss_eq, zIss]) h_1_10 (by kernel_rfl)
          refine anyS.cons rfl ?_ ?_
          · skip
            simp [encSer_eq, encIsss_eq, encIss_eq, zIss, h26, hy1, hy2, hkb, hx, hxx]
            try simp (disch := omega) only [wrap_i64]
            repeat refine ⟨by first | omega | assumption | (simp only [maxLen]; omega) | (intros; omega) | decide, ?_⟩
            refine contS.now (f' := 8) (l' := #[true, false, true, false, false, true, true, true, false, false, true, false, false, false]) ?_ rfl (by kernel_rfl)
            refine coreS.dry E_ok (by kernel_rfl) 8 rfl rfl (by kernel_rfl) (by kernel_rfl) ?_
            simp [encSer_eq, encIsss_eq, encIss_eq, zIss, h26, hy1, hy2, hkb, hx, hxx]
            try simp (disch := omega) only [wrap_i64]
            repeat refine ⟨by first | omega | assumption | (simp only [maxLen]; omega) | (intros; omega) | decide, ?_⟩
            exact contS.mk (by simp [Weak, TW, T.plain, encSer_eq, encIsss_eq, encIss_eq, zIss]) h_6_10 (by kernel_rfl)
          refine anyS.cons rfl ?_ ?_
          · skip
            simp [encSer_eq, encIsss_eq, encIss_eq, zIss, h26, hy1, hy2, hkb, hx, hxx]
            try simp (disch := omega) only [wrap_i64]
            repeat refine ⟨by first | omega | assumption | (simp only [maxLen]; omega) | (intros; omega) | decide, ?_⟩
            exact contS.mk (by simp [Weak, TW, T.plain, encSer_eq, encIsss_eq, encIss_eq, zIss]) h_10_11 (by kernel_rfl)
          exact anyS.nil
        refine contS.cut 9 #[true, false, true, false, false, true, false, true, false, false, false, true, false, false] [(0, T.val (D.agg [D.int IntKind.i64 a.rcd, D.int IntKind.i64 a.pat.start, D.int IntKind.i64 a.pat.every, D.int IntKind.i64 a.pat.per, D.int IntKind.i64 a.pat.first, encInts a.pat.skip, encInts a.pat.dbl, D.int IntKind.i64 a.next, (D.agg [D.int IntKind.i64 (0 : Int), D.int IntKind.i64 (0 : Int), D.int IntKind.i64 (0 : Int), D.int IntKind.i64 (0 : Int), D.int IntKind.i64 (0 : Int), D.int IntKind.i64 (0 : Int)]).slice (List.map encIss a.iss)])), (1, T.val (D.agg [D.int IntKind.i64 b.rcd, D.int IntKind.i64 b.pat.start, D.int IntKind.i64 b.pat.every, D.int IntKind.i64 b.pat.per, D.int IntKind.i64 b.pat.first, encInts b.pat.skip, encInts b.pat.dbl, D.int IntKind.i64 b.next, (D.agg [D.int IntKind.i64 (0 : Int), D.int IntKind.i64 (0 : Int), D.int IntKind.i64 (0 : Int), D.int IntKind.i64 (0 : Int), D.int IntKind.i64 (0 : Int), D.int IntKind.i64 (0 : Int)]).slice (List.map encIss b.iss)])), (2, T.box [C.d (D.int IntKind.i64 a.rcd), C.d (D.int IntKind.i64 a.pat.start), C.d (D.int IntKind.i64 a.pat.every), C.d (D.int IntKind.i64 a.pat.per), C.d (D.int IntKind.i64 a.pat.first), C.d (encInts a.pat.skip), C.d (encInts a.pat.dbl), C.d (D.int IntKind.i64 a.next), C.d ((D.agg [D.int IntKind.i64 (0 : Int), D.int IntKind.i64 (0 : Int), D.int IntKind.i64 (0 : Int), D.int IntKind.i64 (0 : Int), D.int IntKind.i64 (0 : Int), D.int IntKind.i64 (0 : Int)]).slice (List.map encIss a.iss))]), (3, T.box [C.d (D.int IntKind.i64 b.rcd), C.d (D.int IntKind.i64 b.pat.start), C.d (D.int IntKind.i64 b.pat.every), C.d (D.int IntKind.i64 b.pat.per), C.d (D.int IntKind.i64 b.pat.first), C.d (encInts b.pat.skip), C.d (encInts b.pat.dbl), C.d (D.int IntKind.i64 b.next), C.d ((D.agg [D.int IntKind.i64 (0 : Int), D.int IntKind.i64 (0 : Int), D.int IntKind.i64 (0 : Int), D.int IntKind.i64 (0 : Int), D.int IntKind.i64 (0 : Int), D.int IntKind.i64 (0 : Int)]).slice (List.map encIss b.iss))]), (5, T.val (D.int IntKind.i64 ↑k)), (7, T.box [C.d (D.int IntKind.i64 (0 : Int)), C.d (D.int IntKind.i64 (0 : Int)), C.d (D.int IntKind.i64 (0 : Int)), C.d (D.int IntKind.i64 (0 : Int)), C.d (D.int IntKind.i64 (0 : Int)), C.d (D.int IntKind.i64 (0 : Int))]), (24, T.val (D.int IntKind.i64 ↑a.iss.length)), (25, T.val (D.int IntKind.i64 ↑k)), (26, T.val (D.bool true)), (28, T.ptr 2 8), (30, T.val (D.int IntKind.i64 ↑k)), (33, T.ptr 3 8), (35, T.val (D.int IntKind.i64 ↑k))] ?_ fun h_11 => ?_
        · skip
          refine coreS.step E_ok [1, 6, 10] (by kernel_rfl) (by simp) ?_
          refine anyS.cons rfl ?_ ?_
          · skip
            simp [encSer_eq, encIsss_eq, encIss_eq, zIss, h26, hy1, hy2, hkb, hx, hxx]
            try simp (disch := omega) only [wrap_i64]
            repeat refine ⟨by first | omega | assumption | (simp only [maxLen]; omega) | (intros; omega) | decide, ?_⟩
            refine contS.now (f' := 8) (l' := #[true, true, true, false, false, true, false, true, false, false, false, true, false, false]) ?_ rfl (by kernel_rfl)
            refine coreS.dry E_ok (by kernel_rfl) 3 rfl rfl (by kernel_rfl) (by kernel_rfl) ?_
            simp [encSer_eq, encIsss_eq, encIss_eq, zIss, h26, hy1, hy2, hkb, hx, hxx]
            try simp (disch := omega) only [wrap_i64]
            repeat refine ⟨by first | omega | assumption | (simp only [maxLen]; omega) | (intros; omega) | decide, ?_⟩
            exact contS.mk (by simp [Weak, TW, T.plain, encSer_eq, encIsss_eq, encIss_eq, zIss]) h_1_11 (by kernel_rfl)
          refine anyS.cons rfl ?_ ?_
          · skip
            simp [encSer_eq, encIsss_eq, encIss_eq, zIss, h26, hy1, hy2, hkb, hx, hxx]
            try simp (disch := omega) only [wrap_i64]
            repeat refine ⟨by first | omega | assumption | (simp only [maxLen]; omega) | (intros; omega) | decide, ?_⟩
            refine contS.now (f' := 8) (l' := #[true, false, true, false, false, true, true, true, false, false, false, true, false, false]) ?_ rfl (by kernel_rfl)
            refine coreS.dry E_ok (by kernel_rfl) 8 rfl rfl (by kernel_rfl) (by kernel_rfl) ?_
            simp [encSer_eq, encIsss_eq, encIss_eq, zIss, h26, hy1, hy2, hkb, hx, hxx]
            try simp (disch := omega) only [wrap_i64]
            repeat refine ⟨by first | omega | assumption | (simp only [maxLen]; omega) | (intros; omega) | decide, ?_⟩
            exact contS.mk (by simp [Weak, TW, T.plain, encSer_eq, encIsss_eq, encIss_eq, zIss]) h_6_11 (by kernel_rfl)
          refine anyS.cons rfl ?_ ?_
          · skip
            simp [encSer_eq, encIsss_eq, encIss_eq, zIss, h26, hy1, hy2, hkb, hx, hxx]
            try simp (disch := omega) only [wrap_i64]
            repeat refine ⟨by first | omega | assumption | (simp only [maxLen]; omega) | (intros; omega) | decide, ?_⟩
            exact contS.mk (by simp [Weak, TW, T.plain, encSer_eq, encIsss_eq, encIss_eq, zIss]) h_10_11 (by kernel_rfl)
          exact anyS.nil
        refine contS.cut 10 #[true, false, true, false, false, true, false, true, false, false, false, false, false, false] [(0, T.val (D.agg [D.int IntKind.i64 a.rcd, D.int IntKind.i64 a.pat.start, D.int IntKind.i64 a.pat.every, D.int IntKind.i64 a.pat.per, D.int IntKind.i64 a.pat.first, encInts a.pat.skip, encInts a.pat.dbl, D.int IntKind.i64 a.next, (D.agg [D.int IntKind.i64 (0 : Int), D.int IntKind.i64 (0 : Int), D.int IntKind.i64 (0 : Int), D.int IntKind.i64 (0 : Int), D.int IntKind.i64 (0 : Int), D.int IntKind.i64 (0 : Int)]).slice (List.map encIss a.iss)])), (1, T.val (D.agg [D.int IntKind.i64 b.rcd, D.int IntKind.i64 b.pat.start, D.int IntKind.i64 b.pat.every, D.int IntKind.i64 b.pat.per, D.int IntKind.i64 b.pat.first, encInts b.pat.skip, encInts b.pat.dbl, D.int IntKind.i64 b.next, (D.agg [D.int IntKind.i64 (0 : Int), D.int IntKind.i64 (0 : Int), D.int IntKind.i64 (0 : Int), D.int IntKind.i64 (0 : Int), D.int IntKind.i64 (0 : Int), D.int IntKind.i64 (0 : Int)]).slice (List.map encIss b.iss)])), (2, T.box [C.d (D.int IntKind.i64 a.rcd), C.d (D.int IntKind.i64 a.pat.start), C.d (D.int IntKind.i64 a.pat.every), C.d (D.int IntKind.i64 a.pat.per), C.d (D.int IntKind.i64 a.pat.first), C.d (encInts a.pat.skip), C.d (encInts a.pat.dbl), C.d (D.int IntKind.i64 a.next), C.d ((D.agg [D.int IntKind.i64 (0 : Int), D.int IntKind.i64 (0 : Int), D.int IntKind.i64 (0 : Int), D.int IntKind.i64 (0 : Int), D.int IntKind.i64 (0 : Int), D.int IntKind.i64 (0 : Int)]).slice (List.map encIss a.iss))]), (3, T.box [C.d (D.int IntKind.i64 b.rcd), C.d (D.int IntKind.i64 b.pat.start), C.d (D.int IntKind.i64 b.pat.every), C.d (D.int IntKind.i64 b.pat.per), C.d (D.int IntKind.i64 b.pat.first), C.d (encInts b.pat.skip), C.d (encInts b.pat.dbl), C.d (D.int IntKind.i64 b.next), C.d ((D.agg [D.int IntKind.i64 (0 : Int), D.int IntKind.i64 (0 : Int), D.int IntKind.i64 (0 : Int), D.int IntKind.i64 (0 : Int), D.int IntKind.i64 (0 : Int), D.int IntKind.i64 (0 : Int)]).slice (List.map encIss b.iss))]), (5, T.val (D.int IntKind.i64 ↑k)), (24, T.val (D.int IntKind.i64 ↑a.iss.length)), (25, T.val (D.int IntKind.i64 ↑k)), (26, T.val (D.bool true)), (28, T.ptr 2 8), (30, T.val (D.int IntKind.i64 ↑k)), (33, T.ptr 3 8), (35, T.val (D.int IntKind.i64 ↑k))] ?_ fun h_ => ?_
        · skip
          refine coreS.step E_ok [1, 6, 10, 11] (by kernel_rfl) (by simp) ?_
          refine anyS.cons rfl ?_ ?_
          · skip
            simp [encSer_eq, encIsss_eq, encIss_eq, zIss, h26, hy1, hy2, hkb, hx, hxx]
            try simp (disch := omega) only [wrap_i64]
            repeat refine ⟨by first | omega | assumption | (simp only [maxLen]; omega) | (intros; omega) | decide, ?_⟩
            refine contS.now (f' := 9) (l' := #[true, true, true, false, false, true, false, true, false, false, false, false, false, false]) ?_ rfl (by kernel_rfl)
            refine coreS.dry E_ok (by kernel_rfl) 3 rfl rfl (by kernel_rfl) (by kernel_rfl) ?_
            simp [encSer_eq, encIsss_eq, encIss_eq, zIss, h26, hy1, hy2, hkb, hx, hxx]
            try simp (disch := omega) only [wrap_i64]
            repeat refine ⟨by first | omega | assumption | (simp only [maxLen]; omega) | (intros; omega) | decide, ?_⟩
            exact contS.mk (by simp [Weak, TW, T.plain, encSer_eq, encIsss_eq, encIss_eq, zIss]) h_1 (by kernel_rfl)
          refine anyS.cons rfl ?_ ?_
          · skip
            simp [encSer_eq, encIsss_eq, encIss_eq, zIss, h26, hy1, hy2, hkb, hx, hxx]
            try simp (disch := omega) only [wrap_i64]
            repeat refine ⟨by first | omega | assumption | (simp only [maxLen]; omega) | (intros; omega) | decide, ?_⟩
            refine contS.now (f' := 9) (l' := #[true, false, true, false, false, true, true, true, false, false, false, false, false, false]) ?_ rfl (by kernel_rfl)
            refine coreS.dry E_ok (by kernel_rfl) 8 rfl rfl (by kernel_rfl) (by kernel_rfl) ?_
            simp [encSer_eq, encIsss_eq, encIss_eq, zIss, h26, hy1, hy2, hkb, hx, hxx]
            try simp (disch := omega) only [wrap_i64]
            repeat refine ⟨by first | omega | assumption | (simp only [maxLen]; omega) | (intros; omega) | decide, ?_⟩
            exact contS.mk (by simp [Weak, TW, T.plain, encSer_eq, encIsss_eq, encIss_eq, zIss]) h_6 (by kernel_rfl)
          refine anyS.cons rfl ?_ ?_
          · skip
            simp [encSer_eq, encIsss_eq, encIss_eq, zIss, h26, hy1, hy2, hkb, hx, hxx]
            try simp (disch := omega) only [wrap_i64]
            repeat refine ⟨by first | omega | assumption | (simp only [maxLen]; omega) | (intros; omega) | decide, ?_⟩
            exact contS.mk (by simp [Weak, TW, T.plain, encSer_eq, encIsss_eq, encIss_eq, zIss]) h_10 (by kernel_rfl)
          refine anyS.cons rfl ?_ ?_
          · skip
            simp [encSer_eq, encIsss_eq, encIss_eq, zIss, h26, hy1, hy2, hkb, hx, hxx]
            try simp (disch := omega) only [wrap_i64]
            repeat refine ⟨by first | omega | assumption | (simp only [maxLen]; omega) | (intros; omega) | decide, ?_⟩
            exact contS.mk (by simp [Weak, TW, T.plain, encSer_eq, encIsss_eq, encIss_eq, zIss]) h_11 (by kernel_rfl)
          exact anyS.nil
        refine contS.now (f' := 14) (l' := #[false, false, false, false, false, false, false, false, false, false, false, false, false, false]) ?_ rfl (by kernel_rfl)
        refine coreS.dry E_ok (by kernel_rfl) 0 rfl rfl (by kernel_rfl) (by kernel_rfl) ?_
        simp [encSer_eq, encIsss_eq, encIss_eq, zIss, h26, hy1, hy2, hkb, hx, hxx]
        try simp (disch := omega) only [wrap_i64]
        repeat refine ⟨by first | omega | assumption | (simp only [maxLen]; omega) | (intros; omega) | decide, ?_⟩
        refine contS.now (f' := 13) (l' := #[true, false, false, false, false, false, false, false, false, false, false, false, false, false]) ?_ rfl (by kernel_rfl)
        refine coreS.dry E_ok (by kernel_rfl) 2 rfl rfl (by kernel_rfl) (by kernel_rfl) ?_
        simp [encSer_eq, encIsss_eq, encIss_eq, zIss, h26, hy1, hy2, hkb, hx, hxx]
        try simp (disch := omega) only [wrap_i64]
        repeat refine ⟨by first | omega | assumption | (simp only [maxLen]; omega) | (intros; omega) | decide, ?_⟩
        refine contS.now (f' := 12) (l' := #[true, false, true, false, false, false, false, false, false, false, false, false, false, false]) ?_ rfl (by kernel_rfl)
        refine coreS.dry E_ok (by kernel_rfl) 5 rfl rfl (by kernel_rfl) (by kernel_rfl) ?_
        simp [encSer_eq, encIsss_eq, encIss_eq, zIss, h26, hy1, hy2, hkb, hx, hxx]
        try simp (disch := omega) only [wrap_i64]
        repeat refine ⟨by first | omega | assumption | (simp only [maxLen]; omega) | (intros; omega) | decide, ?_⟩
        refine contS.now (f' := 11) (l' := #[true, false, true, false, false, true, false, false, false, false, false, false, false, false]) ?_ rfl (by kernel_rfl)
        refine coreS.dry E_ok (by kernel_rfl) 7 rfl rfl (by kernel_rfl) (by kernel_rfl) ?_
        simp [encSer_eq, encIsss_eq, encIss_eq, zIss, h26, hy1, hy2, hkb, hx, hxx]
        try simp (disch := omega) only [wrap_i64]
        repeat refine ⟨by first | omega | assumption | (simp only [maxLen]; omega) | (intros; omega) | decide, ?_⟩
        exact contS.mk (by simp [Weak, TW, T.plain, encSer_eq, encIsss_eq, encIss_eq, zIss]) h_ (by kernel_rfl)
      refine hK _ ?_
      clear hK K
      -- region 7
      refine AWp.rseq E_ok [0, 1, 2, 3, 4, 5, 6, 7, 21, 24, 25, 26, 44] fun K hK => ?_
      simp [encSer_eq, encIsss_eq, encIss_eq, zIss, h26, hy1, hy2, hkb, hx, hxx]
      try simp (disch := omega) only [wrap_i64]
      repeat refine ⟨by first | omega | assumption | (simp only [maxLen]; omega) | (intros; omega) | decide, ?_⟩
      refine hK _ ?_
      clear hK K
      -- region 8
      refine AWp.rseq E_ok [0, 1, 2, 3, 4, 5, 6, 7, 21, 24, 25, 26, 44] fun K hK => ?_
      simp [encSer_eq, encIsss_eq, encIss_eq, zIss, h26, hy1, hy2, hkb, hx, hxx]
      try simp (disch := omega) only [wrap_i64]
      repeat refine ⟨by first | omega | assumption | (simp only [maxLen]; omega) | (intros; omega) | decide, ?_⟩
      refine hK _ ?_
      clear hK K
      refine AWp.cond rfl (fun h44 => ?_) (fun h44 => ?_)
      · try simp at h44
        have hne : ¬ strip x = strip y := by rw [strip_eq]; omega
        rw [kepF, if_neg hne] at hs
        have hb : keptB a b = false := by rw [hle, ← hs]
        -- region 9
        refine AWp.rseq E_ok [0, 1, 2, 3, 4, 5, 6, 7, 21, 24, 25, 26, 44] fun K hK => ?_
        simp [encSer_eq, encIsss_eq, encIss_eq, zIss, h26, hy1, hy2, hkb, hx, hxx]
        try simp (disch := omega) only [wrap_i64]
        repeat refine ⟨by first | omega | assumption | (simp only [maxLen]; omega) | (intros; omega) | decide, ?_⟩
        refine hK _ ?_
        clear hK K
        refine AWp.ret ?_
        repeat first | refine thenN ?_ | refine thenX ?_ | refine thenR ?_ | refine blockN ?_ | refine blockR ?_ | refine blockX ?_ | refine blockM rfl ?_
        simp [RetOk, RV, hb]
      · try simp at h44
        have hxy : strip x = strip y := (strip_eq x y).2 (by omega)
        rw [kepF, if_pos hxy] at hs
        refine AWp.skip ?_
        repeat first | refine thenN ?_ | refine thenX ?_ | refine thenR ?_ | refine blockN ?_ | refine blockR ?_ | refine blockX ?_ | refine blockM rfl ?_
        -- region 10
        refine AWp.rend E_ok [0, 1, 2, 3, 4, 5, 6, 7, 21, 24, 25, 26, 44] fun K hK => ?_
        simp [encSer_eq, encIsss_eq, encIss_eq, zIss, h26, hy1, hy2, hkb, hx, hxx]
        try simp (disch := omega) only [wrap_i64]
        repeat refine ⟨by first | omega | assumption | (simp only [maxLen]; omega) | (intros; omega) | decide, ?_⟩
        refine hK _ ?_
        clear hK K
        repeat first | refine thenN ?_ | refine thenX ?_ | refine thenR ?_ | refine blockN ?_ | refine blockR ?_ | refine blockX ?_ | refine blockM rfl ?_
        have hw : IntKind.i64.wrap ((k : Int) + 1) = (k : Int) + 1 := by rw [wrap_i64] <;> omega
        skip
        refine ⟨_, h26, hs, ?_, ?_⟩
        · first | exact trivial | (simp; omega) | simp
        · simp [Weak, TW, hw, encSer_eq, encIsss_eq, encIss_eq, zIss]
    · try simp at h26
      obtain rfl : k = a.iss.length := by omega
      simp [kepF] at hs
      have hb : keptB a b = true := by rw [hle]; simp [hs]
      refine AWp.exit ?_
      repeat first | refine thenN ?_ | refine thenX ?_ | refine thenR ?_ | refine blockN ?_ | refine blockR ?_ | refine blockX ?_ | refine blockM rfl ?_
      -- region 11
      refine AWp.rseq E_ok [0, 1, 2, 3, 4, 5, 6, 7, 21, 24, 25, 26, 44] fun K hK => ?_
      simp [encSer_eq, encIsss_eq, encIss_eq, zIss, h26]
      try simp (disch := omega) only [wrap_i64]
      repeat refine ⟨by first | omega | assumption | (simp only [maxLen]; omega) | (intros; omega) | decide, ?_⟩
      refine hK _ ?_
      clear hK K
      refine AWp.ret ?_
      repeat first | refine thenN ?_ | refine thenX ?_ | refine thenR ?_ | refine blockN ?_ | refine blockR ?_ | refine blockX ?_ | refine blockM rfl ?_
      simp [RetOk, RV, hb]
end Go.Proofs.Ytceapemkefaicaa
