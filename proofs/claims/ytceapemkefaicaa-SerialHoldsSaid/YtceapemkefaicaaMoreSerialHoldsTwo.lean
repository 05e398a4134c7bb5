/-
  What the functions compute that the statement reaches: contracts, and the plain laws between them. Conditions stand at each theorem.
-/
import Derived.Test.YtceapemkefaicaaMoreSerialHoldsOne
set_option linter.unusedVariables false
set_option linter.unusedSimpArgs false
set_option maxRecDepth 100000
set_option linter.unusedSimpArgs false
set_option linter.unusedVariables false
namespace Go.Proofs.Ytceapemkefaicaa
open Go Ab Pl
theorem law37_same (a b : List Int) (hl : a.length ≤ 100000) : ACalls E.P 30 [encInts a, encInts b] (.d (.bool (decide (a = b)))) := by
  refine ACalls.intro E_ok Try.func30 rfl rfl Try.ntmps30 Try.results30 (Nat.le_of_ble_eq_true rfl) fun hok base S0 w0 => ?_
  -- region 0
  refine AWp.rseq E_ok [0, 1, 4, 5, 10, 12, 13, 14, 24] fun K hK => ?_
  simp [encInts_eq]
  repeat refine ⟨by first | omega | assumption | (simp only [maxLen]; omega) | (intros; omega) | decide, ?_⟩
  refine hK _ ?_
  clear hK K
  refine AWp.seq ?_
  -- region 1
  refine AWp.rseq E_ok [0, 1, 4, 5, 10, 12, 13, 14, 24] fun K hK => ?_
  simp [encInts_eq]
  repeat refine ⟨by first | omega | assumption | (simp only [maxLen]; omega) | (intros; omega) | decide, ?_⟩
  refine hK _ ?_
  clear hK K
  refine AWp.cond rfl (fun h10 => ?_) (fun h10 => ?_)
  · try simp at h10
    have hb : decide (a = b) = false := decide_eq_false fun h => h10 (by rw [h])
    -- region 2
    refine AWp.rseq E_ok [0, 1, 4, 5, 10, 12, 13, 14, 24] fun K hK => ?_
    simp [encInts_eq]
    repeat refine ⟨by first | omega | assumption | (simp only [maxLen]; omega) | (intros; omega) | decide, ?_⟩
    refine hK _ ?_
    clear hK K
    refine AWp.ret ?_
    repeat first | refine thenN ?_ | refine thenX ?_ | refine thenR ?_ | refine blockN ?_ | refine blockR ?_ | refine blockX ?_ | refine blockM rfl ?_
    simp [RetOk, RV, hb]
  · try simp at h10
    have hle := samZ_eq a b (by omega)
    refine AWp.skip ?_
    repeat first | refine thenN ?_ | refine thenX ?_ | refine thenR ?_ | refine blockN ?_ | refine blockR ?_ | refine blockX ?_ | refine blockM rfl ?_
    refine AWp.seq ?_
    -- region 3
    refine AWp.rseq E_ok [0, 1, 4, 5, 10, 12, 13, 14, 24] fun K hK => ?_
    simp [encInts_eq]
    repeat refine ⟨by first | omega | assumption | (simp only [maxLen]; omega) | (intros; omega) | decide, ?_⟩
    refine hK _ ?_
    clear hK K
    refine AWp.block ?_
    refine AWp.range (l := a) (F := samZ) (tot := samZ b a) (fun k y => match y with | bs => bs = b.drop k) (fun k y => match y with | bs => [(0, T.val ((D.int IntKind.i64 0).slice (List.map (D.int IntKind.i64) a))), (1, T.val ((D.int IntKind.i64 0).slice (List.map (D.int IntKind.i64) b))), (12, T.val (D.int IntKind.i64 ↑a.length)), (13, T.val (.int .i64 k))]) (b) ?_ rfl ?_ ?_
    · simp [Weak, TW, encInts_eq]
    · first | exact trivial | (simp; omega) | simp
    rintro k bs hk hs hi
    try simp only at hi
    -- region 4
    refine AWp.rseq E_ok [0, 1, 4, 5, 10, 12, 13, 14, 24] fun K hK => ?_
    simp [encInts_eq]
    repeat refine ⟨by first | omega | assumption | (simp only [maxLen]; omega) | (intros; omega) | decide, ?_⟩
    refine hK _ ?_
    clear hK K
    refine AWp.seq ?_
    refine AWp.cond rfl (fun h14 => ?_) (fun h14 => ?_)
    · try simp at h14
      obtain ⟨y, hy1, hy2, hyd⟩ := at_indexG (l := b) (k := k) (by omega)
      rw [hi, hyd] at hs
      obtain ⟨x, hx, hxx, hd⟩ := at_indexG (l := a) h14
      rw [hd] at hs
      refine AWp.skip ?_
      repeat first | refine thenN ?_ | refine thenX ?_ | refine thenR ?_ | refine blockN ?_ | refine blockR ?_ | refine blockX ?_ | refine blockM rfl ?_
      refine AWp.seq ?_
      refine AWp.block ?_
      -- region 5
      refine AWp.rseq E_ok [0, 1, 4, 5, 10, 12, 13, 14, 24] fun K hK => ?_
      simp [encInts_eq, h14, hy1, hx, hxx]
      repeat refine ⟨by first | omega | assumption | (simp only [maxLen]; omega) | (intros; omega) | decide, ?_⟩
      refine hK _ ?_
      clear hK K
      -- region 6
      refine AWp.rseqQ E_ok mixed [0, 1, 4, 5, 10, 12, 13, 14, 24] (by kernel_rfl) fun K hK => ?_
      simp [encInts_eq, h14, hy1, hx, hxx]
      repeat refine ⟨by first | omega | assumption | (simp only [maxLen]; omega) | (intros; omega) | decide, ?_⟩
      refine hK _ ?_
      clear hK K
      refine AWp.cond rfl (fun h24 => ?_) (fun h24 => ?_)
      · try simp at h24
        rw [samZ, if_neg h24] at hs
        have hb : decide (a = b) = false := by rw [← hle, ← hs]
        -- region 7
        refine AWp.rseq E_ok [0, 1, 4, 5, 10, 12, 13, 14, 24] fun K hK => ?_
        simp [encInts_eq, h14, hy1, hx, hxx]
        repeat refine ⟨by first | omega | assumption | (simp only [maxLen]; omega) | (intros; omega) | decide, ?_⟩
        refine hK _ ?_
        clear hK K
        refine AWp.ret ?_
        repeat first | refine thenN ?_ | refine thenX ?_ | refine thenR ?_ | refine blockN ?_ | refine blockR ?_ | refine blockX ?_ | refine blockM rfl ?_
        simp [RetOk, RV, hb]
      · try simp at h24
        rw [samZ, if_pos h24] at hs
        refine AWp.skip ?_
        repeat first | refine thenN ?_ | refine thenX ?_ | refine thenR ?_ | refine blockN ?_ | refine blockR ?_ | refine blockX ?_ | refine blockM rfl ?_
        -- region 8
        refine AWp.rend E_ok [0, 1, 4, 5, 10, 12, 13, 14, 24] fun K hK => ?_
        simp [encInts_eq, h14, hy1, hx, hxx]
        repeat refine ⟨by first | omega | assumption | (simp only [maxLen]; omega) | (intros; omega) | decide, ?_⟩
        refine hK _ ?_
        clear hK K
        repeat first | refine thenN ?_ | refine thenX ?_ | refine thenR ?_ | refine blockN ?_ | refine blockR ?_ | refine blockX ?_ | refine blockM rfl ?_
        have hw : IntKind.i64.wrap ((k : Int) + 1) = (k : Int) + 1 := by rw [wrap_i64] <;> omega
        skip
        refine ⟨_, h14, hs, ?_, ?_⟩
        · first | exact trivial | (simp; omega) | simp
        · simp [Weak, TW, hw, encInts_eq]
    · try simp at h14
      obtain rfl : k = a.length := by omega
      simp [samZ] at hs
      have hb : decide (a = b) = true := by rw [← hle]; simp [hs]
      refine AWp.exit ?_
      repeat first | refine thenN ?_ | refine thenX ?_ | refine thenR ?_ | refine blockN ?_ | refine blockR ?_ | refine blockX ?_ | refine blockM rfl ?_
      -- region 9
      refine AWp.rseq E_ok [0, 1, 4, 5, 10, 12, 13, 14, 24] fun K hK => ?_
      simp [encInts_eq, h14]
      repeat refine ⟨by first | omega | assumption | (simp only [maxLen]; omega) | (intros; omega) | decide, ?_⟩
      refine hK _ ?_
      clear hK K
      refine AWp.ret ?_
      repeat first | refine thenN ?_ | refine thenX ?_ | refine thenR ?_ | refine blockN ?_ | refine blockR ?_ | refine blockX ?_ | refine blockM rfl ?_
      simp [RetOk, RV, hb]
end Go.Proofs.Ytceapemkefaicaa

set_option maxRecDepth 100000
set_option linter.unusedSimpArgs false
set_option linter.unusedVariables false
namespace Go.Proofs.Ytceapemkefaicaa
open Go Ab Pl
theorem ref37_Gaps (s : Ser) (hl : s.iss.length ≤ 1000) : ACalls E.P 37 [encSer s] (.d (encInts (gapsR s))) := by
  refine ACalls.intro E_ok Try.func37 rfl rfl Try.ntmps37 Try.results37 (Nat.le_of_ble_eq_true rfl) fun hok base S0 w0 => ?_
  -- region 0
  refine AWp.rseq E_ok [0, 1, 2, 3, 4, 10, 28] fun K hK => ?_
  simp [encSer_eq, encIsss_eq, encIss_eq, encInts_eq]
  try simp (disch := omega) only [wrap_i64]
  repeat refine ⟨by first | omega | assumption | (simp only [maxLen]; omega) | (intros; omega) | decide, ?_⟩
  refine hK _ ?_
  clear hK K
  -- region 1
  refine AWp.rseq E_ok [0, 1, 2, 3, 4, 10, 28] fun K hK => ?_
  simp [encSer_eq, encIsss_eq, encIss_eq, encInts_eq]
  try simp (disch := omega) only [wrap_i64]
  repeat refine ⟨by first | omega | assumption | (simp only [maxLen]; omega) | (intros; omega) | decide, ?_⟩
  refine hK _ ?_
  clear hK K
  refine AWp.seq ?_
  -- region 2
  refine AWp.rseq E_ok [0, 1, 2, 3, 4, 10, 28] fun K hK => ?_
  simp [encSer_eq, encIsss_eq, encIss_eq, encInts_eq]
  try simp (disch := omega) only [wrap_i64]
  repeat refine ⟨by first | omega | assumption | (simp only [maxLen]; omega) | (intros; omega) | decide, ?_⟩
  refine hK _ ?_
  clear hK K
  refine AWp.block ?_
  refine AWp.range (l := s.iss) (F := gapsF) (tot := gapsF (0, []) s.iss) (fun k y => match y with | (i, o) => i = (k : Int) ∧ o.length ≤ k) (fun k y => match y with | (i, o) => [(0, T.val (D.agg [D.int IntKind.i64 s.rcd, D.int IntKind.i64 s.pat.start, D.int IntKind.i64 s.pat.every, D.int IntKind.i64 s.pat.per, D.int IntKind.i64 s.pat.first, (D.int IntKind.i64 0).slice (List.map (D.int IntKind.i64) s.pat.skip), (D.int IntKind.i64 0).slice (List.map (D.int IntKind.i64) s.pat.dbl), D.int IntKind.i64 s.next, (D.agg [D.int IntKind.i64 zIss.vol, D.int IntKind.i64 zIss.num, D.int IntKind.i64 zIss.last, D.int IntKind.i64 zIss.day, D.int IntKind.i64 zIss.st, D.int IntKind.i64 zIss.item]).slice (List.map encIss s.iss)])), (1, T.box [C.d (D.int IntKind.i64 s.rcd), C.d (D.int IntKind.i64 s.pat.start), C.d (D.int IntKind.i64 s.pat.every), C.d (D.int IntKind.i64 s.pat.per), C.d (D.int IntKind.i64 s.pat.first), C.d ((D.int IntKind.i64 0).slice (List.map (D.int IntKind.i64) s.pat.skip)), C.d ((D.int IntKind.i64 0).slice (List.map (D.int IntKind.i64) s.pat.dbl)), C.d (D.int IntKind.i64 s.next), C.d ((D.agg [D.int IntKind.i64 zIss.vol, D.int IntKind.i64 zIss.num, D.int IntKind.i64 zIss.last, D.int IntKind.i64 zIss.day, D.int IntKind.i64 zIss.st, D.int IntKind.i64 zIss.item]).slice (List.map encIss s.iss))]), (3, T.own true (.int .i64 0) (o.map (D.int .i64))), (4, T.val (.int .i64 k))]) (0, []) ?_ rfl ?_ ?_
  · simp [Weak, TW, encSer_eq, encIsss_eq, encIss_eq, encInts_eq]
  · first | exact trivial | (simp; omega) | simp
  rintro k ⟨i, o⟩ hk hs hi
  try simp only at hi
  refine AWp.seq ?_
  -- region 3
  refine AWp.rseq E_ok [0, 1, 2, 3, 4, 10, 28] fun K hK => ?_
  simp [encSer_eq, encIsss_eq, encIss_eq, encInts_eq]
  try simp (disch := omega) only [wrap_i64]
  repeat refine ⟨by first | omega | assumption | (simp only [maxLen]; omega) | (intros; omega) | decide, ?_⟩
  refine hK _ ?_
  clear hK K
  refine AWp.cond rfl (fun h10 => ?_) (fun h10 => ?_)
  · try simp at h10
    obtain ⟨x, hx, hxx, hd⟩ := at_indexG (l := s.iss) h10
    rw [hd] at hs
    refine AWp.skip ?_
    repeat first | refine thenN ?_ | refine thenX ?_ | refine thenR ?_ | refine blockN ?_ | refine blockR ?_ | refine blockX ?_ | refine blockM rfl ?_
    refine AWp.seq ?_
    refine AWp.block ?_
    -- region 5
    refine AWp.rseq E_ok [0, 1, 2, 3, 4, 10, 28] fun K hK => ?_
    simp [encSer_eq, encIsss_eq, encIss_eq, encInts_eq, h10, hx, hxx]
    try simp (disch := omega) only [wrap_i64]
    repeat refine ⟨by first | omega | assumption | (simp only [maxLen]; omega) | (intros; omega) | decide, ?_⟩
    refine hK _ ?_
    clear hK K
    refine AWp.cond rfl (fun h28 => ?_) (fun h28 => ?_)
    · try simp at h28
      rw [gapsF, if_pos h28] at hs
      -- region 6
      refine AWp.rend E_ok [0, 1, 2, 3, 4, 10, 28] fun K hK => ?_
      simp [encSer_eq, encIsss_eq, encIss_eq, encInts_eq, h10, hx, hxx]
      try simp (disch := omega) only [wrap_i64]
      repeat refine ⟨by first | omega | assumption | (simp only [maxLen]; omega) | (intros; omega) | decide, ?_⟩
      refine hK _ ?_
      clear hK K
      repeat first | refine thenN ?_ | refine thenX ?_ | refine thenR ?_ | refine blockN ?_ | refine blockR ?_ | refine blockX ?_ | refine blockM rfl ?_
      -- region 4
      refine AWp.rend E_ok [0, 1, 2, 3, 4, 10, 28] fun K hK => ?_
      simp [encSer_eq, encIsss_eq, encIss_eq, encInts_eq, h10, hx, hxx]
      try simp (disch := omega) only [wrap_i64]
      repeat refine ⟨by first | omega | assumption | (simp only [maxLen]; omega) | (intros; omega) | decide, ?_⟩
      refine hK _ ?_
      clear hK K
      repeat first | refine thenN ?_ | refine thenX ?_ | refine thenR ?_ | refine blockN ?_ | refine blockR ?_ | refine blockX ?_ | refine blockM rfl ?_
      have hw : IntKind.i64.wrap ((k : Int) + 1) = (k : Int) + 1 := by rw [wrap_i64] <;> omega
      skip
      refine ⟨_, h10, hs, ?_, ?_⟩
      · first | exact trivial | (simp; omega) | simp
      · simp [Weak, TW, hw, encSer_eq, encIsss_eq, encIss_eq, encInts_eq] <;> omega
    · try simp at h28
      rw [gapsF, if_neg (by omega)] at hs
      refine AWp.skip ?_
      repeat first | refine thenN ?_ | refine thenX ?_ | refine thenR ?_ | refine blockN ?_ | refine blockR ?_ | refine blockX ?_ | refine blockM rfl ?_
      -- region 4
      refine AWp.rend E_ok [0, 1, 2, 3, 4, 10, 28] fun K hK => ?_
      simp [encSer_eq, encIsss_eq, encIss_eq, encInts_eq, h10, hx, hxx]
      try simp (disch := omega) only [wrap_i64]
      repeat refine ⟨by first | omega | assumption | (simp only [maxLen]; omega) | (intros; omega) | decide, ?_⟩
      refine hK _ ?_
      clear hK K
      repeat first | refine thenN ?_ | refine thenX ?_ | refine thenR ?_ | refine blockN ?_ | refine blockR ?_ | refine blockX ?_ | refine blockM rfl ?_
      have hw : IntKind.i64.wrap ((k : Int) + 1) = (k : Int) + 1 := by rw [wrap_i64] <;> omega
      skip
      refine ⟨_, h10, hs, ?_, ?_⟩
      · first | exact trivial | (simp; omega) | simp
      · simp [Weak, TW, hw, encSer_eq, encIsss_eq, encIss_eq, encInts_eq] <;> omega
  · try simp at h10
    obtain rfl : k = s.iss.length := by omega
    simp [gapsF] at hs
    refine AWp.exit ?_
    repeat first | refine thenN ?_ | refine thenX ?_ | refine thenR ?_ | refine blockN ?_ | refine blockR ?_ | refine blockX ?_ | refine blockM rfl ?_
    -- region 7
    refine AWp.rseq E_ok [0, 1, 2, 3, 4, 10, 28] fun K hK => ?_
    simp [encSer_eq, encIsss_eq, encIss_eq, encInts_eq, h10]
    try simp (disch := omega) only [wrap_i64]
    repeat refine ⟨by first | omega | assumption | (simp only [maxLen]; omega) | (intros; omega) | decide, ?_⟩
    refine hK _ ?_
    clear hK K
    refine AWp.ret ?_
    repeat first | refine thenN ?_ | refine thenX ?_ | refine thenR ?_ | refine blockN ?_ | refine blockR ?_ | refine blockX ?_ | refine blockM rfl ?_
    rw [gapsF_eq] at hs; simp [RetOk, RV, ← hs, encInts_eq]
end Go.Proofs.Ytceapemkefaicaa

set_option maxRecDepth 100000
set_option linter.unusedSimpArgs false
set_option linter.unusedVariables false
namespace Go.Proofs.Ytceapemkefaicaa
open Go Ab Pl
theorem law37_spans (a b : List Spn) (hl : a.length ≤ 100000) : ACalls E.P 33 [encSpns a, encSpns b] (.d (.bool (decide (a = b)))) := by
  refine ACalls.intro E_ok Try.func33 rfl rfl Try.ntmps33 Try.results33 (Nat.le_of_ble_eq_true rfl) fun hok base S0 w0 => ?_
  -- region 0
  refine AWp.rseq E_ok [0, 1, 4, 5, 10, 12, 13, 14, 24] fun K hK => ?_
  simp [encSpns_eq, encSpn_eq]
  repeat refine ⟨by first | omega | assumption | (simp only [maxLen]; omega) | (intros; omega) | decide, ?_⟩
  refine hK _ ?_
  clear hK K
  refine AWp.seq ?_
  -- region 1
  refine AWp.rseq E_ok [0, 1, 4, 5, 10, 12, 13, 14, 24] fun K hK => ?_
  simp [encSpns_eq, encSpn_eq]
  repeat refine ⟨by first | omega | assumption | (simp only [maxLen]; omega) | (intros; omega) | decide, ?_⟩
  refine hK _ ?_
  clear hK K
  refine AWp.cond rfl (fun h10 => ?_) (fun h10 => ?_)
  · try simp at h10
    have hb : decide (a = b) = false := decide_eq_false fun h => h10 (by rw [h])
    -- region 2
    refine AWp.rseq E_ok [0, 1, 4, 5, 10, 12, 13, 14, 24] fun K hK => ?_
    simp [encSpns_eq, encSpn_eq]
    repeat refine ⟨by first | omega | assumption | (simp only [maxLen]; omega) | (intros; omega) | decide, ?_⟩
    refine hK _ ?_
    clear hK K
    refine AWp.ret ?_
    repeat first | refine thenN ?_ | refine thenX ?_ | refine thenR ?_ | refine blockN ?_ | refine blockR ?_ | refine blockX ?_ | refine blockM rfl ?_
    simp [RetOk, RV, hb]
  · try simp at h10
    have hle := samS_eq a b (by omega)
    refine AWp.skip ?_
    repeat first | refine thenN ?_ | refine thenX ?_ | refine thenR ?_ | refine blockN ?_ | refine blockR ?_ | refine blockX ?_ | refine blockM rfl ?_
    refine AWp.seq ?_
    -- region 3
    refine AWp.rseq E_ok [0, 1, 4, 5, 10, 12, 13, 14, 24] fun K hK => ?_
    simp [encSpns_eq, encSpn_eq]
    repeat refine ⟨by first | omega | assumption | (simp only [maxLen]; omega) | (intros; omega) | decide, ?_⟩
    refine hK _ ?_
    clear hK K
    refine AWp.block ?_
    refine AWp.range (l := a) (F := samS) (tot := samS b a) (fun k y => match y with | bs => bs = b.drop k) (fun k y => match y with | bs => [(0, T.val ((D.agg [D.int IntKind.i64 zSpn.fr, D.int IntKind.i64 zSpn.til]).slice (List.map encSpn a))), (1, T.val ((D.agg [D.int IntKind.i64 zSpn.fr, D.int IntKind.i64 zSpn.til]).slice (List.map encSpn b))), (12, T.val (D.int IntKind.i64 ↑a.length)), (13, T.val (.int .i64 k))]) (b) ?_ rfl ?_ ?_
    · simp [Weak, TW, encSpns_eq, encSpn_eq]
    · first | exact trivial | (simp; omega) | simp
    rintro k bs hk hs hi
    try simp only at hi
    -- region 4
    refine AWp.rseq E_ok [0, 1, 4, 5, 10, 12, 13, 14, 24] fun K hK => ?_
    simp [encSpns_eq, encSpn_eq]
    repeat refine ⟨by first | omega | assumption | (simp only [maxLen]; omega) | (intros; omega) | decide, ?_⟩
    refine hK _ ?_
    clear hK K
    refine AWp.seq ?_
    refine AWp.cond rfl (fun h14 => ?_) (fun h14 => ?_)
    · try simp at h14
      obtain ⟨y, hy1, hy2, hyd⟩ := at_indexG (l := b) (k := k) (by omega)
      rw [hi, hyd] at hs
      obtain ⟨x, hx, hxx, hd⟩ := at_indexG (l := a) h14
      rw [hd] at hs
      refine AWp.skip ?_
      repeat first | refine thenN ?_ | refine thenX ?_ | refine thenR ?_ | refine blockN ?_ | refine blockR ?_ | refine blockX ?_ | refine blockM rfl ?_
      refine AWp.seq ?_
      refine AWp.block ?_
      -- region 5
      refine AWp.rseq E_ok [0, 1, 4, 5, 10, 12, 13, 14, 24] fun K hK => ?_
      simp [encSpns_eq, encSpn_eq, h14, hy1, hx, hxx]
      repeat refine ⟨by first | omega | assumption | (simp only [maxLen]; omega) | (intros; omega) | decide, ?_⟩
      refine hK _ ?_
      clear hK K
      -- region 6
      refine AWp.rseqQ E_ok mixed [0, 1, 4, 5, 10, 12, 13, 14, 24] (by kernel_rfl) fun K hK => ?_
      simp [encSpns_eq, encSpn_eq, h14, hy1, hx, hxx]
      repeat refine ⟨by first | omega | assumption | (simp only [maxLen]; omega) | (intros; omega) | decide, ?_⟩
      refine hK _ ?_
      clear hK K
      refine AWp.cond rfl (fun h24 => ?_) (fun h24 => ?_)
      · try simp at h24
        have hne : ¬ x = y := by rw [spn_eq]; omega
        rw [samS, if_neg hne] at hs
        have hb : decide (a = b) = false := by rw [← hle, ← hs]
        -- region 7
        refine AWp.rseq E_ok [0, 1, 4, 5, 10, 12, 13, 14, 24] fun K hK => ?_
        simp [encSpns_eq, encSpn_eq, h14, hy1, hx, hxx]
        repeat refine ⟨by first | omega | assumption | (simp only [maxLen]; omega) | (intros; omega) | decide, ?_⟩
        refine hK _ ?_
        clear hK K
        refine AWp.ret ?_
        repeat first | refine thenN ?_ | refine thenX ?_ | refine thenR ?_ | refine blockN ?_ | refine blockR ?_ | refine blockX ?_ | refine blockM rfl ?_
        simp [RetOk, RV, hb]
      · try simp at h24
        have hxy : x = y := (spn_eq x y).2 (by omega)
        rw [samS, if_pos hxy] at hs
        refine AWp.skip ?_
        repeat first | refine thenN ?_ | refine thenX ?_ | refine thenR ?_ | refine blockN ?_ | refine blockR ?_ | refine blockX ?_ | refine blockM rfl ?_
        -- region 8
        refine AWp.rend E_ok [0, 1, 4, 5, 10, 12, 13, 14, 24] fun K hK => ?_
        simp [encSpns_eq, encSpn_eq, h14, hy1, hx, hxx]
        repeat refine ⟨by first | omega | assumption | (simp only [maxLen]; omega) | (intros; omega) | decide, ?_⟩
        refine hK _ ?_
        clear hK K
        repeat first | refine thenN ?_ | refine thenX ?_ | refine thenR ?_ | refine blockN ?_ | refine blockR ?_ | refine blockX ?_ | refine blockM rfl ?_
        have hw : IntKind.i64.wrap ((k : Int) + 1) = (k : Int) + 1 := by rw [wrap_i64] <;> omega
        skip
        refine ⟨_, h14, hs, ?_, ?_⟩
        · first | exact trivial | (simp; omega) | simp
        · simp [Weak, TW, hw, encSpns_eq, encSpn_eq]
    · try simp at h14
      obtain rfl : k = a.length := by omega
      simp [samS] at hs
      have hb : decide (a = b) = true := by rw [← hle]; simp [hs]
      refine AWp.exit ?_
      repeat first | refine thenN ?_ | refine thenX ?_ | refine thenR ?_ | refine blockN ?_ | refine blockR ?_ | refine blockX ?_ | refine blockM rfl ?_
      -- region 9
      refine AWp.rseq E_ok [0, 1, 4, 5, 10, 12, 13, 14, 24] fun K hK => ?_
      simp [encSpns_eq, encSpn_eq, h14]
      repeat refine ⟨by first | omega | assumption | (simp only [maxLen]; omega) | (intros; omega) | decide, ?_⟩
      refine hK _ ?_
      clear hK K
      refine AWp.ret ?_
      repeat first | refine thenN ?_ | refine thenX ?_ | refine thenR ?_ | refine blockN ?_ | refine blockR ?_ | refine blockX ?_ | refine blockM rfl ?_
      simp [RetOk, RV, hb]
end Go.Proofs.Ytceapemkefaicaa

set_option maxRecDepth 100000
set_option linter.unusedSimpArgs false
set_option linter.unusedVariables false
namespace Go.Proofs.Ytceapemkefaicaa
open Go Ab Pl
theorem ref37_count (s : Ser) (v a b : Int) (hl : s.iss.length ≤ 1000) : ACalls E.P 58 [encSer s, .int .i64 v, .int .i64 a, .int .i64 b] (.tup [.int .i64 (cntF v a b (0, 0) s.iss).1, .int .i64 (cntF v a b (0, 0) s.iss).2]) := by
  refine ACalls.intro E_ok Try.func58 rfl rfl Try.ntmps58 Try.results58 (Nat.le_of_ble_eq_true rfl) fun hok base S0 w0 => ?_
  -- region 0
  refine AWp.rseq E_ok [0, 1, 2, 3, 4, 8, 9, 10, 11, 12, 13, 18, 29, 41] fun K hK => ?_
  simp [encSer_eq, encIsss_eq, encIss_eq]
  try simp (disch := omega) only [wrap_i64]
  repeat refine ⟨by first | omega | assumption | (simp only [maxLen]; omega) | (intros; omega) | decide, ?_⟩
  refine hK _ ?_
  clear hK K
  -- region 1
  refine AWp.rseq E_ok [0, 1, 2, 3, 4, 8, 9, 10, 11, 12, 13, 18, 29, 41] fun K hK => ?_
  simp [encSer_eq, encIsss_eq, encIss_eq]
  try simp (disch := omega) only [wrap_i64]
  repeat refine ⟨by first | omega | assumption | (simp only [maxLen]; omega) | (intros; omega) | decide, ?_⟩
  refine hK _ ?_
  clear hK K
  refine AWp.seq ?_
  -- region 2
  refine AWp.rseq E_ok [0, 1, 2, 3, 4, 8, 9, 10, 11, 12, 13, 18, 29, 41] fun K hK => ?_
  simp [encSer_eq, encIsss_eq, encIss_eq]
  try simp (disch := omega) only [wrap_i64]
  repeat refine ⟨by first | omega | assumption | (simp only [maxLen]; omega) | (intros; omega) | decide, ?_⟩
  refine hK _ ?_
  clear hK K
  refine AWp.block ?_
  refine AWp.range (l := s.iss) (F := cntF v a b) (tot := cntF v a b (0, 0) s.iss) (fun k y => match y with | (p, q) => (0 ≤ q ∧ q ≤ p) ∧ p ≤ (k : Int)) (fun k y => match y with | (p, q) => [(0, T.val (D.agg [D.int IntKind.i64 s.rcd, D.int IntKind.i64 s.pat.start, D.int IntKind.i64 s.pat.every, D.int IntKind.i64 s.pat.per, D.int IntKind.i64 s.pat.first, encInts s.pat.skip, encInts s.pat.dbl, D.int IntKind.i64 s.next, (D.agg [D.int IntKind.i64 zIss.vol, D.int IntKind.i64 zIss.num, D.int IntKind.i64 zIss.last, D.int IntKind.i64 zIss.day, D.int IntKind.i64 zIss.st, D.int IntKind.i64 zIss.item]).slice (List.map encIss s.iss)])), (1, T.val (D.int IntKind.i64 v)), (2, T.val (D.int IntKind.i64 a)), (3, T.val (D.int IntKind.i64 b)), (4, T.box [C.d (D.int IntKind.i64 s.rcd), C.d (D.int IntKind.i64 s.pat.start), C.d (D.int IntKind.i64 s.pat.every), C.d (D.int IntKind.i64 s.pat.per), C.d (D.int IntKind.i64 s.pat.first), C.d (encInts s.pat.skip), C.d (encInts s.pat.dbl), C.d (D.int IntKind.i64 s.next), C.d ((D.agg [D.int IntKind.i64 zIss.vol, D.int IntKind.i64 zIss.num, D.int IntKind.i64 zIss.last, D.int IntKind.i64 zIss.day, D.int IntKind.i64 zIss.st, D.int IntKind.i64 zIss.item]).slice (List.map encIss s.iss))]), (10, T.val (.int .i64 p)), (11, T.val (.int .i64 q)), (12, T.val (.int .i64 k))]) (0, 0) ?_ rfl ?_ ?_
  · simp [Weak, TW, encSer_eq, encIsss_eq, encIss_eq]
  · first | exact trivial | (simp; omega) | simp
  rintro k ⟨p, q⟩ hk hs hi
  try simp only at hi
  refine AWp.seq ?_
  -- region 3
  refine AWp.rseq E_ok [0, 1, 2, 3, 4, 8, 9, 10, 11, 12, 13, 18, 29, 41] fun K hK => ?_
  simp [encSer_eq, encIsss_eq, encIss_eq]
  try simp (disch := omega) only [wrap_i64]
  repeat refine ⟨by first | omega | assumption | (simp only [maxLen]; omega) | (intros; omega) | decide, ?_⟩
  refine hK _ ?_
  clear hK K
  refine AWp.cond rfl (fun h18 => ?_) (fun h18 => ?_)
  · try simp at h18
    obtain ⟨x, hx, hxx, hd⟩ := at_indexG (l := s.iss) h18
    rw [hd] at hs
    refine AWp.skip ?_
    repeat first | refine thenN ?_ | refine thenX ?_ | refine thenR ?_ | refine blockN ?_ | refine blockR ?_ | refine blockX ?_ | refine blockM rfl ?_
    refine AWp.seq ?_
    refine AWp.block ?_
    -- region 5
    refine AWp.rseq E_ok [0, 1, 2, 3, 4, 8, 9, 10, 11, 12, 13, 18, 29, 41] fun K hK => ?_
    simp [encSer_eq, encIsss_eq, encIss_eq, h18, hx, hxx]
    try simp (disch := omega) only [wrap_i64]
    repeat refine ⟨by first | omega | assumption | (simp only [maxLen]; omega) | (intros; omega) | decide, ?_⟩
    refine hK _ ?_
    clear hK K
    -- region 6
    refine AWp.rseq E_ok [0, 1, 2, 3, 4, 8, 9, 10, 11, 12, 13, 18, 29, 41] fun K hK => ?_
    simp [encSer_eq, encIsss_eq, encIss_eq, h18, hx, hxx]
    try simp (disch := omega) only [wrap_i64]
    repeat refine ⟨by first | omega | assumption | (simp only [maxLen]; omega) | (intros; omega) | decide, ?_⟩
    refine hK _ ?_
    clear hK K
    refine AWp.cond rfl (fun h29 => ?_) (fun h29 => ?_)
    · try simp at h29
      rw [cntF, if_pos h29] at hs
      -- region 7
      refine AWp.rseq E_ok [0, 1, 2, 3, 4, 8, 9, 10, 11, 12, 13, 18, 29, 41] fun K hK => ?_
      simp [encSer_eq, encIsss_eq, encIss_eq, h18, hx, hxx]
      try simp (disch := omega) only [wrap_i64]
      repeat refine ⟨by first | omega | assumption | (simp only [maxLen]; omega) | (intros; omega) | decide, ?_⟩
      refine hK _ ?_
      clear hK K
      -- region 8
      refine AWp.rseq E_ok [0, 1, 2, 3, 4, 8, 9, 10, 11, 12, 13, 18, 29, 41] fun K hK => ?_
      simp [encSer_eq, encIsss_eq, encIss_eq, h18, hx, hxx]
      try simp (disch := omega) only [wrap_i64]
      repeat refine ⟨by first | omega | assumption | (simp only [maxLen]; omega) | (intros; omega) | decide, ?_⟩
      refine hK _ ?_
      clear hK K
      refine AWp.cond rfl (fun h41 => ?_) (fun h41 => ?_)
      · try simp at h41
        rw [if_pos h41] at hs
        -- region 9
        refine AWp.rend E_ok [0, 1, 2, 3, 4, 8, 9, 10, 11, 12, 13, 18, 29, 41] fun K hK => ?_
        simp [encSer_eq, encIsss_eq, encIss_eq, h18, hx, hxx]
        try simp (disch := omega) only [wrap_i64]
        repeat refine ⟨by first | omega | assumption | (simp only [maxLen]; omega) | (intros; omega) | decide, ?_⟩
        refine hK _ ?_
        clear hK K
        repeat first | refine thenN ?_ | refine thenX ?_ | refine thenR ?_ | refine blockN ?_ | refine blockR ?_ | refine blockX ?_ | refine blockM rfl ?_
        -- region 4
        refine AWp.rend E_ok [0, 1, 2, 3, 4, 8, 9, 10, 11, 12, 13, 18, 29, 41] fun K hK => ?_
        simp [encSer_eq, encIsss_eq, encIss_eq, h18, hx, hxx]
        try simp (disch := omega) only [wrap_i64]
        repeat refine ⟨by first | omega | assumption | (simp only [maxLen]; omega) | (intros; omega) | decide, ?_⟩
        refine hK _ ?_
        clear hK K
        repeat first | refine thenN ?_ | refine thenX ?_ | refine thenR ?_ | refine blockN ?_ | refine blockR ?_ | refine blockX ?_ | refine blockM rfl ?_
        have hw : IntKind.i64.wrap ((k : Int) + 1) = (k : Int) + 1 := by rw [wrap_i64] <;> omega
        skip
        refine ⟨_, h18, hs, ?_, ?_⟩
        · first | exact trivial | (simp; omega) | simp
        · simp [Weak, TW, hw, encSer_eq, encIsss_eq, encIss_eq]
      · try simp at h41
        rw [if_neg (by omega)] at hs
        refine AWp.skip ?_
        repeat first | refine thenN ?_ | refine thenX ?_ | refine thenR ?_ | refine blockN ?_ | refine blockR ?_ | refine blockX ?_ | refine blockM rfl ?_
        -- region 4
        refine AWp.rend E_ok [0, 1, 2, 3, 4, 8, 9, 10, 11, 12, 13, 18, 29, 41] fun K hK => ?_
        simp [encSer_eq, encIsss_eq, encIss_eq, h18, hx, hxx]
        try simp (disch := omega) only [wrap_i64]
        repeat refine ⟨by first | omega | assumption | (simp only [maxLen]; omega) | (intros; omega) | decide, ?_⟩
        refine hK _ ?_
        clear hK K
        repeat first | refine thenN ?_ | refine thenX ?_ | refine thenR ?_ | refine blockN ?_ | refine blockR ?_ | refine blockX ?_ | refine blockM rfl ?_
        have hw : IntKind.i64.wrap ((k : Int) + 1) = (k : Int) + 1 := by rw [wrap_i64] <;> omega
        skip
        refine ⟨_, h18, hs, ?_, ?_⟩
        · first | exact trivial | (simp; omega) | simp
        · simp [Weak, TW, hw, encSer_eq, encIsss_eq, encIss_eq]
    · try simp at h29
      rw [cntF, if_neg (by omega)] at hs
      refine AWp.skip ?_
      repeat first | refine thenN ?_ | refine thenX ?_ | refine thenR ?_ | refine blockN ?_ | refine blockR ?_ | refine blockX ?_ | refine blockM rfl ?_
      -- region 4
      refine AWp.rend E_ok [0, 1, 2, 3, 4, 8, 9, 10, 11, 12, 13, 18, 29, 41] fun K hK => ?_
      simp [encSer_eq, encIsss_eq, encIss_eq, h18, hx, hxx]
      try simp (disch := omega) only [wrap_i64]
      repeat refine ⟨by first | omega | assumption | (simp only [maxLen]; omega) | (intros; omega) | decide, ?_⟩
      refine hK _ ?_
      clear hK K
      repeat first | refine thenN ?_ | refine thenX ?_ | refine thenR ?_ | refine blockN ?_ | refine blockR ?_ | refine blockX ?_ | refine blockM rfl ?_
      have hw : IntKind.i64.wrap ((k : Int) + 1) = (k : Int) + 1 := by rw [wrap_i64] <;> omega
      skip
      refine ⟨_, h18, hs, ?_, ?_⟩
      · first | exact trivial | (simp; omega) | simp
      · simp [Weak, TW, hw, encSer_eq, encIsss_eq, encIss_eq]
  · try simp at h18
    obtain rfl : k = s.iss.length := by omega
    simp [cntF] at hs
    refine AWp.exit ?_
    repeat first | refine thenN ?_ | refine thenX ?_ | refine thenR ?_ | refine blockN ?_ | refine blockR ?_ | refine blockX ?_ | refine blockM rfl ?_
    -- region 10
    refine AWp.rseq E_ok [0, 1, 2, 3, 4, 8, 9, 10, 11, 12, 13, 18, 29, 41] fun K hK => ?_
    simp [encSer_eq, encIsss_eq, encIss_eq, h18]
    try simp (disch := omega) only [wrap_i64]
    repeat refine ⟨by first | omega | assumption | (simp only [maxLen]; omega) | (intros; omega) | decide, ?_⟩
    refine hK _ ?_
    clear hK K
    refine AWp.ret ?_
    repeat first | refine thenN ?_ | refine thenX ?_ | refine thenR ?_ | refine blockN ?_ | refine blockR ?_ | refine blockX ?_ | refine blockM rfl ?_
    simp [RetOk, RV, RVs, ← hs]
end Go.Proofs.Ytceapemkefaicaa

set_option maxRecDepth 100000
set_option linter.unusedSimpArgs false
set_option linter.unusedVariables false
namespace Go.Proofs.Ytceapemkefaicaa
open Go Ab Pl
theorem ref37_numbered (x : Iss) (n : Int) : ACalls E.P 77 [encIss x, .int .i64 n] (.d (.bool (decide (x.num = n ∨ x.num ≤ n ∧ n ≤ x.last)))) := by
  refine ACalls.intro E_ok Try.func77 rfl rfl Try.ntmps77 Try.results77 (Nat.le_of_ble_eq_true rfl) fun hok base S0 w0 => ?_
  -- region 0
  refine AWp.rseq E_ok [0, 1, 2, 4] fun K hK => ?_
  simp [encIss_eq]
  repeat refine ⟨by first | omega | assumption | (simp only [maxLen]; omega) | (intros; omega) | decide, ?_⟩
  refine hK _ ?_
  clear hK K
  -- region 1
  refine AWp.rseq E_ok [0, 1, 2, 4] fun K hK => ?_
  simp [encIss_eq]
  repeat refine ⟨by first | omega | assumption | (simp only [maxLen]; omega) | (intros; omega) | decide, ?_⟩
  refine hK _ ?_
  clear hK K
  refine AWp.ret ?_
  repeat first | refine thenN ?_ | refine thenX ?_ | refine thenR ?_ | refine blockN ?_ | refine blockR ?_ | refine blockX ?_ | refine blockM rfl ?_
  simp [RetOk, RV]; rw [Bool.eq_iff_iff]; simp
end Go.Proofs.Ytceapemkefaicaa

set_option maxRecDepth 100000
set_option linter.unusedSimpArgs false
set_option linter.unusedVariables false
namespace Go.Proofs.Ytceapemkefaicaa
open Go Ab Pl
theorem ref37_find (s : Ser) (v n : Int) (hl : s.iss.length ≤ 1000) : ACalls E.P 53 [encSer s, .int .i64 v, .int .i64 n] (.d (.int .i64 (fndR s.iss v n))) := by
  refine ACalls.intro E_ok Try.func53 rfl rfl Try.ntmps53 Try.results53 (Nat.le_of_ble_eq_true rfl) fun hok base S0 w0 => ?_
  -- region 0
  refine AWp.rseq E_ok [0, 1, 2, 3, 6, 7, 12, 31] fun K hK => ?_
  simp [encSer_eq, encIsss_eq, encIss_eq]
  repeat refine ⟨by first | omega | assumption | (simp only [maxLen]; omega) | (intros; omega) | decide, ?_⟩
  refine hK _ ?_
  clear hK K
  refine AWp.seq ?_
  -- region 1
  refine AWp.rseq E_ok [0, 1, 2, 3, 6, 7, 12, 31] fun K hK => ?_
  simp [encSer_eq, encIsss_eq, encIss_eq]
  repeat refine ⟨by first | omega | assumption | (simp only [maxLen]; omega) | (intros; omega) | decide, ?_⟩
  refine hK _ ?_
  clear hK K
  refine AWp.block ?_
  refine AWp.range (l := s.iss) (F := fndI v n) (tot := fndI v n 0 s.iss) (fun k y => match y with | i => i = (k : Int)) (fun k y => match y with | i => [(0, T.val (D.agg [D.int IntKind.i64 s.rcd, D.int IntKind.i64 s.pat.start, D.int IntKind.i64 s.pat.every, D.int IntKind.i64 s.pat.per, D.int IntKind.i64 s.pat.first, encInts s.pat.skip, encInts s.pat.dbl, D.int IntKind.i64 s.next, (D.agg [D.int IntKind.i64 zIss.vol, D.int IntKind.i64 zIss.num, D.int IntKind.i64 zIss.last, D.int IntKind.i64 zIss.day, D.int IntKind.i64 zIss.st, D.int IntKind.i64 zIss.item]).slice (List.map encIss s.iss)])), (1, T.val (D.int IntKind.i64 v)), (2, T.val (D.int IntKind.i64 n)), (3, T.box [C.d (D.int IntKind.i64 s.rcd), C.d (D.int IntKind.i64 s.pat.start), C.d (D.int IntKind.i64 s.pat.every), C.d (D.int IntKind.i64 s.pat.per), C.d (D.int IntKind.i64 s.pat.first), C.d (encInts s.pat.skip), C.d (encInts s.pat.dbl), C.d (D.int IntKind.i64 s.next), C.d ((D.agg [D.int IntKind.i64 zIss.vol, D.int IntKind.i64 zIss.num, D.int IntKind.i64 zIss.last, D.int IntKind.i64 zIss.day, D.int IntKind.i64 zIss.st, D.int IntKind.i64 zIss.item]).slice (List.map encIss s.iss))]), (7, T.val (.int .i64 k))]) (0) ?_ rfl ?_ ?_
  · simp [Weak, TW, encSer_eq, encIsss_eq, encIss_eq]
  · first | exact trivial | (simp; omega) | simp
  rintro k i hk hs hi
  try simp only at hi
  refine AWp.seq ?_
  -- region 2
  refine AWp.rseq E_ok [0, 1, 2, 3, 6, 7, 12, 31] fun K hK => ?_
  simp [encSer_eq, encIsss_eq, encIss_eq]
  repeat refine ⟨by first | omega | assumption | (simp only [maxLen]; omega) | (intros; omega) | decide, ?_⟩
  refine hK _ ?_
  clear hK K
  refine AWp.cond rfl (fun h12 => ?_) (fun h12 => ?_)
  · try simp at h12
    obtain ⟨x, hx, hxx, hd⟩ := at_indexG (l := s.iss) h12
    rw [hd] at hs
    have hLk : k < s.iss.length := by omega
    refine AWp.skip ?_
    repeat first | refine thenN ?_ | refine thenX ?_ | refine thenR ?_ | refine blockN ?_ | refine blockR ?_ | refine blockX ?_ | refine blockM rfl ?_
    refine AWp.seq ?_
    refine AWp.block ?_
    -- region 4
    refine AWp.rseq E_ok [0, 1, 2, 3, 6, 7, 12, 31] fun K hK => ?_
    simp [encSer_eq, encIsss_eq, encIss_eq, h12, hx, hxx]
    repeat refine ⟨by first | omega | assumption | (simp only [maxLen]; omega) | (intros; omega) | decide, ?_⟩
    refine meet.of (ref37_numbered x n) ?_
    simp [encSer_eq, encIsss_eq, encIss_eq, h12, hx, hxx]
    repeat refine ⟨by first | omega | assumption | (simp only [maxLen]; omega) | (intros; omega) | decide, ?_⟩
    refine hK _ ?_
    clear hK K
    refine AWp.cond rfl (fun h31 => ?_) (fun h31 => ?_)
    · try simp at h31
      rw [fndI, if_pos (by unfold Numd; simpa using h31)] at hs
      -- region 5
      refine AWp.rseq E_ok [0, 1, 2, 3, 6, 7, 12, 31] fun K hK => ?_
      simp [encSer_eq, encIsss_eq, encIss_eq, h12, hx, hxx]
      repeat refine ⟨by first | omega | assumption | (simp only [maxLen]; omega) | (intros; omega) | decide, ?_⟩
      refine hK _ ?_
      clear hK K
      refine AWp.ret ?_
      repeat first | refine thenN ?_ | refine thenX ?_ | refine thenR ?_ | refine blockN ?_ | refine blockR ?_ | refine blockX ?_ | refine blockM rfl ?_
      simp [RetOk, RV, fndR, ← hs, hi]
    · try simp at h31
      rw [fndI, if_neg (by unfold Numd; simpa using h31)] at hs
      refine AWp.skip ?_
      repeat first | refine thenN ?_ | refine thenX ?_ | refine thenR ?_ | refine blockN ?_ | refine blockR ?_ | refine blockX ?_ | refine blockM rfl ?_
      -- region 3
      refine AWp.rend E_ok [0, 1, 2, 3, 6, 7, 12, 31] fun K hK => ?_
      simp [encSer_eq, encIsss_eq, encIss_eq, h12, hx, hxx]
      repeat refine ⟨by first | omega | assumption | (simp only [maxLen]; omega) | (intros; omega) | decide, ?_⟩
      refine hK _ ?_
      clear hK K
      repeat first | refine thenN ?_ | refine thenX ?_ | refine thenR ?_ | refine blockN ?_ | refine blockR ?_ | refine blockX ?_ | refine blockM rfl ?_
      have hw : IntKind.i64.wrap ((k : Int) + 1) = (k : Int) + 1 := by rw [wrap_i64] <;> omega
      skip
      refine ⟨_, h12, hs, ?_, ?_⟩
      · first | exact trivial | (simp; omega) | simp
      · simp [Weak, TW, hw, encSer_eq, encIsss_eq, encIss_eq] <;> omega
  · try simp at h12
    obtain rfl : k = s.iss.length := by omega
    simp [fndI] at hs
    refine AWp.exit ?_
    repeat first | refine thenN ?_ | refine thenX ?_ | refine thenR ?_ | refine blockN ?_ | refine blockR ?_ | refine blockX ?_ | refine blockM rfl ?_
    -- region 6
    refine AWp.rseq E_ok [0, 1, 2, 3, 6, 7, 12, 31] fun K hK => ?_
    simp [encSer_eq, encIsss_eq, encIss_eq, h12]
    repeat refine ⟨by first | omega | assumption | (simp only [maxLen]; omega) | (intros; omega) | decide, ?_⟩
    refine hK _ ?_
    clear hK K
    refine AWp.ret ?_
    repeat first | refine thenN ?_ | refine thenX ?_ | refine thenR ?_ | refine blockN ?_ | refine blockR ?_ | refine blockX ?_ | refine blockM rfl ?_
    simp [RetOk, RV, fndR, ← hs, hi]
end Go.Proofs.Ytceapemkefaicaa

set_option maxRecDepth 100000
set_option linter.unusedSimpArgs false
set_option linter.unusedVariables false
namespace Go.Proofs.Ytceapemkefaicaa
open Go Ab Pl
theorem ref37_whole (s : Ser) (v : Int) (hl : s.iss.length ≤ 1000) : ACalls E.P 60 [encSer s, .int .i64 v] (.d (.bool (heldB s.iss s.pat.per v))) := by
  refine ACalls.intro E_ok Try.func60 rfl rfl Try.ntmps60 Try.results60 (Nat.le_of_ble_eq_true rfl) fun hok base S0 w0 => ?_
  -- region 0
  refine AWp.rseq E_ok [0, 1, 2, 4, 5, 6] fun K hK => ?_
  simp [encSer_eq, encIsss_eq, encIss_eq]
  repeat refine ⟨by first | omega | assumption | (simp only [maxLen]; omega) | (intros; omega) | decide, ?_⟩
  refine hK _ ?_
  clear hK K
  -- region 1
  refine AWp.rseq E_ok [0, 1, 2, 4, 5, 6] fun K hK => ?_
  simp [encSer_eq, encIsss_eq, encIss_eq]
  repeat refine ⟨by first | omega | assumption | (simp only [maxLen]; omega) | (intros; omega) | decide, ?_⟩
  refine meet.of (ref37_count s v 2 4 (by omega)) ?_
  simp [encSer_eq, encIsss_eq, encIss_eq]
  repeat refine ⟨by first | omega | assumption | (simp only [maxLen]; omega) | (intros; omega) | decide, ?_⟩
  refine hK _ ?_
  clear hK K
  -- region 2
  refine AWp.rseq E_ok [0, 1, 2, 4, 5, 6] fun K hK => ?_
  simp [encSer_eq, encIsss_eq, encIss_eq]
  repeat refine ⟨by first | omega | assumption | (simp only [maxLen]; omega) | (intros; omega) | decide, ?_⟩
  refine meet.of (ref37_find s v s.pat.per (by omega)) ?_
  simp [encSer_eq, encIsss_eq, encIss_eq]
  repeat refine ⟨by first | omega | assumption | (simp only [maxLen]; omega) | (intros; omega) | decide, ?_⟩
  refine hK _ ?_
  clear hK K
  refine AWp.ret ?_
  repeat first | refine thenN ?_ | refine thenX ?_ | refine thenR ?_ | refine blockN ?_ | refine blockR ?_ | refine blockX ?_ | refine blockM rfl ?_
  simp [RetOk, RV, heldB, ← held_cnt]; rw [Bool.and_comm]; rfl
end Go.Proofs.Ytceapemkefaicaa

set_option maxRecDepth 100000
set_option linter.unusedSimpArgs false
set_option linter.unusedVariables false
namespace Go.Proofs.Ytceapemkefaicaa
open Go Ab Pl
set_option maxHeartbeats 8000000 in
theorem ref37_Held (s : Ser) (h : SerOk s) : ACalls E.P 35 [encSer s] (.d (encSpns (heldR s))) := by
  refine ACalls.intro E_ok Try.func35 rfl rfl Try.ntmps35 Try.results35 (Nat.le_of_ble_eq_true rfl) fun hok base S0 w0 => ?_
  have hl := h.len
  -- region 0
  refine AWp.rseq E_ok [0, 1, 2, 3, 4, 5, 6, 7, 13, 40, 44, 46] fun K hK => ?_
  simp [encSer_eq, encIsss_eq, encIss_eq, encSpn_eq, encSpns_eq, zSpn]
  try simp (disch := omega) only [wrap_i64]
  repeat refine ⟨by first | omega | assumption | (simp only [maxLen]; omega) | (intros; omega) | decide, ?_⟩
  refine hK _ ?_
  clear hK K
  -- region 1
  refine AWp.rseq E_ok [0, 1, 2, 3, 4, 5, 6, 7, 13, 40, 44, 46] fun K hK => ?_
  simp [encSer_eq, encIsss_eq, encIss_eq, encSpn_eq, encSpns_eq, zSpn]
  try simp (disch := omega) only [wrap_i64]
  repeat refine ⟨by first | omega | assumption | (simp only [maxLen]; omega) | (intros; omega) | decide, ?_⟩
  refine hK _ ?_
  clear hK K
  -- region 2
  refine AWp.rseq E_ok [0, 1, 2, 3, 4, 5, 6, 7, 13, 40, 44, 46] fun K hK => ?_
  simp [encSer_eq, encIsss_eq, encIss_eq, encSpn_eq, encSpns_eq, zSpn]
  try simp (disch := omega) only [wrap_i64]
  repeat refine ⟨by first | omega | assumption | (simp only [maxLen]; omega) | (intros; omega) | decide, ?_⟩
  refine hK _ ?_
  clear hK K
  refine AWp.seq ?_
  -- region 3
  refine AWp.rseq E_ok [0, 1, 2, 3, 4, 5, 6, 7, 13, 40, 44, 46] fun K hK => ?_
  simp [encSer_eq, encIsss_eq, encIss_eq, encSpn_eq, encSpns_eq, zSpn]
  try simp (disch := omega) only [wrap_i64]
  repeat refine ⟨by first | omega | assumption | (simp only [maxLen]; omega) | (intros; omega) | decide, ?_⟩
  refine hK _ ?_
  clear hK K
  refine AWp.block ?_
  refine AWp.range (l := s.iss) (F := hlrF s.iss s.pat.per) (tot := hlrF s.iss s.pat.per (0, 0, []) s.iss) (fun k y => match y with | (i, f, o) => i = k ∧ o.length ≤ k ∧ (¬ f = 0 → o ≠ [])) (fun k y => match y with | (i, f, o) => [(0, T.val (D.agg [D.int IntKind.i64 s.rcd, D.int IntKind.i64 s.pat.start, D.int IntKind.i64 s.pat.every, D.int IntKind.i64 s.pat.per, D.int IntKind.i64 s.pat.first, encInts s.pat.skip, encInts s.pat.dbl, D.int IntKind.i64 s.next, (D.agg [D.int IntKind.i64 zIss.vol, D.int IntKind.i64 zIss.num, D.int IntKind.i64 zIss.last, D.int IntKind.i64 zIss.day, D.int IntKind.i64 zIss.st, D.int IntKind.i64 zIss.item]).slice (List.map encIss s.iss)])), (1, T.box [C.d (D.int IntKind.i64 s.rcd), C.d (D.int IntKind.i64 s.pat.start), C.d (D.int IntKind.i64 s.pat.every), C.d (D.int IntKind.i64 s.pat.per), C.d (D.int IntKind.i64 s.pat.first), C.d (encInts s.pat.skip), C.d (encInts s.pat.dbl), C.d (D.int IntKind.i64 s.next), C.d ((D.agg [D.int IntKind.i64 zIss.vol, D.int IntKind.i64 zIss.num, D.int IntKind.i64 zIss.last, D.int IntKind.i64 zIss.day, D.int IntKind.i64 zIss.st, D.int IntKind.i64 zIss.item]).slice (List.map encIss s.iss))]), (3, T.own true (encSpn zSpn) (o.map encSpn)), (4, T.val (.int .i64 f)), (5, T.val (.int .i64 k))]) (0, 0, []) ?_ rfl ?_ ?_
  · simp [Weak, TW, encSer_eq, encIsss_eq, encIss_eq, encSpn_eq, encSpns_eq, zSpn]
  · exact ⟨rfl, by simp, by simp⟩
  rintro k ⟨i, f, o⟩ hk hs hi
  try simp only at hi
  refine AWp.seq ?_
  -- region 4
  refine AWp.rseq E_ok [0, 1, 2, 3, 4, 5, 6, 7, 13, 40, 44, 46] fun K hK => ?_
  simp [encSer_eq, encIsss_eq, encIss_eq, encSpn_eq, encSpns_eq, zSpn]
  try simp (disch := omega) only [wrap_i64]
  repeat refine ⟨by first | omega | assumption | (simp only [maxLen]; omega) | (intros; omega) | decide, ?_⟩
  refine hK _ ?_
  clear hK K
  refine AWp.cond rfl (fun h13 => ?_) (fun h13 => ?_)
  · try simp at h13
    obtain ⟨x, hx, hxx, hd⟩ := at_indexG (l := s.iss) h13
    rw [hd] at hs
    rw [hi.1, hlrF_go] at hs
    have hkw : IntKind.i64.wrap ((k : Int) + 1) = (k : Int) + 1 := by rw [wrap_i64] <;> omega
    refine AWp.skip ?_
    repeat first | refine thenN ?_ | refine thenX ?_ | refine thenR ?_ | refine blockN ?_ | refine blockR ?_ | refine blockX ?_ | refine blockM rfl ?_
    refine AWp.seq ?_
    refine AWp.block ?_
    -- region 6
    refine AWp.rseq E_ok [0, 1, 2, 3, 4, 5, 6, 7, 13, 40, 44, 46] fun K hK => ?_
    simp [encSer_eq, encIsss_eq, encIss_eq, encSpn_eq, encSpns_eq, zSpn, h13, hkw, hx, hxx]
    try simp (disch := omega) only [wrap_i64]
    repeat refine ⟨by first | omega | assumption | (simp only [maxLen]; omega) | (intros; omega) | decide, ?_⟩
    refine hK _ ?_
    clear hK K
    rcases Decidable.em (k + 1 = s.iss.length) with hkl | hkl
    · skip
      have hkm : s.iss.length = k + 1 := by omega
      have hlast : (k : Int) + 1 = (s.iss.length : Int) ∨ ¬ (s.iss.getD (k + 1) zIss).vol = x.vol := .inl (by omega)
      -- region 7
      refine AWp.rseq E_ok [0, 1, 2, 3, 4, 5, 6, 7, 13, 40, 44, 46] fun K hK => ?_
      simp [encSer_eq, encIsss_eq, encIss_eq, encSpn_eq, encSpns_eq, zSpn, h13, hkw, hx, hxx, hkm]
      try simp (disch := omega) only [wrap_i64]
      repeat refine ⟨by first | omega | assumption | (simp only [maxLen]; omega) | (intros; omega) | decide, ?_⟩
      refine hK _ ?_
      clear hK K
      refine AWp.seq ?_
      -- region 8
      refine AWp.rseq E_ok [0, 1, 2, 3, 4, 5, 6, 7, 13, 40, 44, 46] fun K hK => ?_
      simp [encSer_eq, encIsss_eq, encIss_eq, encSpn_eq, encSpns_eq, zSpn, h13, hkw, hx, hxx, hkm]
      try simp (disch := omega) only [wrap_i64]
      repeat refine ⟨by first | omega | assumption | (simp only [maxLen]; omega) | (intros; omega) | decide, ?_⟩
      refine hK _ ?_
      clear hK K
      refine AWp.cond rfl (fun h40 => ?_) (fun h40 => ?_)
      · exact absurd h40 (by simp)
      · try simp at h40
        rw [if_pos (by first | exact hlast | (rw [hgy]; exact .inr (h40 hyn)))] at hs
        refine AWp.skip ?_
        repeat first | refine thenN ?_ | refine thenX ?_ | refine thenR ?_ | refine blockN ?_ | refine blockR ?_ | refine blockX ?_ | refine blockM rfl ?_
        refine AWp.seq ?_
        -- region 9
        refine AWp.rseq E_ok [0, 1, 2, 3, 4, 5, 6, 7, 13, 40, 44, 46] fun K hK => ?_
        simp [encSer_eq, encIsss_eq, encIss_eq, encSpn_eq, encSpns_eq, zSpn, h13, hkw, hx, hxx, hkm]
        try simp (disch := omega) only [wrap_i64]
        repeat refine ⟨by first | omega | assumption | (simp only [maxLen]; omega) | (intros; omega) | decide, ?_⟩
        refine meet.of (ref37_whole s x.vol (by omega)) ?_
        simp [encSer_eq, encIsss_eq, encIss_eq, encSpn_eq, encSpns_eq, zSpn, h13, hkw, hx, hxx, hkm]
        try simp (disch := omega) only [wrap_i64]
        repeat refine ⟨by first | omega | assumption | (simp only [maxLen]; omega) | (intros; omega) | decide, ?_⟩
        refine hK _ ?_
        clear hK K
        refine AWp.cond rfl (fun h44 => ?_) (fun h44 => ?_)
        · try simp at h44
          rw [if_pos (by simpa using h44)] at hs
          -- region 10
          refine AWp.rseq E_ok [0, 1, 2, 3, 4, 5, 6, 7, 13, 40, 44, 46] fun K hK => ?_
          simp [encSer_eq, encIsss_eq, encIss_eq, encSpn_eq, encSpns_eq, zSpn, h13, hkw, hx, hxx, hkm]
          try simp (disch := omega) only [wrap_i64]
          repeat refine ⟨by first | omega | assumption | (simp only [maxLen]; omega) | (intros; omega) | decide, ?_⟩
          refine hK _ ?_
          clear hK K
          refine AWp.exit ?_
          repeat first | refine thenN ?_ | refine thenX ?_ | refine thenR ?_ | refine blockN ?_ | refine blockR ?_ | refine blockX ?_ | refine blockM rfl ?_
          -- region 5
          refine AWp.rend E_ok [0, 1, 2, 3, 4, 5, 6, 7, 13, 40, 44, 46] fun K hK => ?_
          simp [encSer_eq, encIsss_eq, encIss_eq, encSpn_eq, encSpns_eq, zSpn, h13, hkw, hx, hxx, hkm]
          try simp (disch := omega) only [wrap_i64]
          repeat refine ⟨by first | omega | assumption | (simp only [maxLen]; omega) | (intros; omega) | decide, ?_⟩
          refine hK _ ?_
          clear hK K
          repeat first | refine thenN ?_ | refine thenX ?_ | refine thenR ?_ | refine blockN ?_ | refine blockR ?_ | refine blockX ?_ | refine blockM rfl ?_
          have hw : IntKind.i64.wrap ((k : Int) + 1) = (k : Int) + 1 := by rw [wrap_i64] <;> omega
          skip
          refine ⟨_, h13, hs, ?_, ?_⟩
          · exact ⟨by omega, by (try simp only [List.length_append, List.length_singleton, List.length_take]); omega, by first | exact hi.2.2 | simp⟩
          · simp [Weak, TW, hw, encSer_eq, encIsss_eq, encIss_eq, encSpn_eq, encSpns_eq, zSpn] <;> omega
        · try simp at h44
          rw [if_neg (by simpa using h44)] at hs
          refine AWp.skip ?_
          repeat first | refine thenN ?_ | refine thenX ?_ | refine thenR ?_ | refine blockN ?_ | refine blockR ?_ | refine blockX ?_ | refine blockM rfl ?_
          refine AWp.seq ?_
          -- region 11
          refine AWp.rseq E_ok [0, 1, 2, 3, 4, 5, 6, 7, 13, 40, 44, 46] fun K hK => ?_
          simp [encSer_eq, encIsss_eq, encIss_eq, encSpn_eq, encSpns_eq, zSpn, h13, hkw, hx, hxx, hkm]
          try simp (disch := omega) only [wrap_i64]
          repeat refine ⟨by first | omega | assumption | (simp only [maxLen]; omega) | (intros; omega) | decide, ?_⟩
          refine hK _ ?_
          clear hK K
          refine AWp.cond rfl (fun h46 => ?_) (fun h46 => ?_)
          · try simp at h46
            rw [if_pos h46] at hs
            -- region 12
            refine AWp.rseq E_ok [0, 1, 2, 3, 4, 5, 6, 7, 13, 40, 44, 46] fun K hK => ?_
            simp [encSer_eq, encIsss_eq, encIss_eq, encSpn_eq, encSpns_eq, zSpn, h13, hkw, hx, hxx, hkm]
            try simp (disch := omega) only [wrap_i64]
            repeat refine ⟨by first | omega | assumption | (simp only [maxLen]; omega) | (intros; omega) | decide, ?_⟩
            refine hK _ ?_
            clear hK K
            -- region 13
            refine AWp.rseq E_ok [0, 1, 2, 3, 4, 5, 6, 7, 13, 40, 44, 46] fun K hK => ?_
            simp [encSer_eq, encIsss_eq, encIss_eq, encSpn_eq, encSpns_eq, zSpn, h13, hkw, hx, hxx, hkm]
            try simp (disch := omega) only [wrap_i64]
            repeat refine ⟨by first | omega | assumption | (simp only [maxLen]; omega) | (intros; omega) | decide, ?_⟩
            refine hK _ ?_
            clear hK K
            refine AWp.exit ?_
            repeat first | refine thenN ?_ | refine thenX ?_ | refine thenR ?_ | refine blockN ?_ | refine blockR ?_ | refine blockX ?_ | refine blockM rfl ?_
            -- region 5
            refine AWp.rend E_ok [0, 1, 2, 3, 4, 5, 6, 7, 13, 40, 44, 46] fun K hK => ?_
            simp [encSer_eq, encIsss_eq, encIss_eq, encSpn_eq, encSpns_eq, zSpn, h13, hkw, hx, hxx, hkm]
            try simp (disch := omega) only [wrap_i64]
            repeat refine ⟨by first | omega | assumption | (simp only [maxLen]; omega) | (intros; omega) | decide, ?_⟩
            refine hK _ ?_
            clear hK K
            repeat first | refine thenN ?_ | refine thenX ?_ | refine thenR ?_ | refine blockN ?_ | refine blockR ?_ | refine blockX ?_ | refine blockM rfl ?_
            have hw : IntKind.i64.wrap ((k : Int) + 1) = (k : Int) + 1 := by rw [wrap_i64] <;> omega
            skip
            refine ⟨_, h13, hs, ?_, ?_⟩
            · exact ⟨by omega, by (try simp only [List.length_append, List.length_singleton, List.length_take]); omega, by first | exact hi.2.2 | simp⟩
            · simp [Weak, TW, hw, encSer_eq, encIsss_eq, encIss_eq, encSpn_eq, encSpns_eq, zSpn] <;> omega
          · try simp at h46
            rw [if_neg h46] at hs
            obtain ⟨n, z, hn, hon, hz1, hz2, hzo, hdl, hadd⟩ := last_at (hi.2.2 h46)
            rw [hdl] at hs
            have hwn : IntKind.i64.wrap ((n : Int) + 1 - 1) = (n : Int) := by rw [wrap_i64] <;> omega
            have hwn2 : IntKind.i64.wrap (n : Int) = (n : Int) := by rw [wrap_i64] <;> omega
            refine AWp.skip ?_
            repeat first | refine thenN ?_ | refine thenX ?_ | refine thenR ?_ | refine blockN ?_ | refine blockR ?_ | refine blockX ?_ | refine blockM rfl ?_
            -- region 14
            refine AWp.rend E_ok [0, 1, 2, 3, 4, 5, 6, 7, 13, 40, 44, 46] fun K hK => ?_
            simp [encSer_eq, encIsss_eq, encIss_eq, encSpn_eq, encSpns_eq, zSpn, h13, hkw, hx, hxx, hkm, hon, hwn, hwn2]
            try simp (disch := omega) only [wrap_i64]
            repeat refine ⟨by first | omega | assumption | (simp only [maxLen]; omega) | (intros; omega) | decide, ?_⟩
            refine hK _ ?_
            clear hK K
            repeat first | refine thenN ?_ | refine thenX ?_ | refine thenR ?_ | refine blockN ?_ | refine blockR ?_ | refine blockX ?_ | refine blockM rfl ?_
            -- region 5
            refine AWp.rend E_ok [0, 1, 2, 3, 4, 5, 6, 7, 13, 40, 44, 46] fun K hK => ?_
            simp [encSer_eq, encIsss_eq, encIss_eq, encSpn_eq, encSpns_eq, zSpn, h13, hkw, hx, hxx, hkm, hon, hwn, hwn2]
            try simp (disch := omega) only [wrap_i64]
            repeat refine ⟨by first | omega | assumption | (simp only [maxLen]; omega) | (intros; omega) | decide, ?_⟩
            refine hK _ ?_
            clear hK K
            repeat first | refine thenN ?_ | refine thenX ?_ | refine thenR ?_ | refine blockN ?_ | refine blockR ?_ | refine blockX ?_ | refine blockM rfl ?_
            have hw : IntKind.i64.wrap ((k : Int) + 1) = (k : Int) + 1 := by rw [wrap_i64] <;> omega
            skip
            refine ⟨_, h13, hs, ?_, ?_⟩
            · exact ⟨by omega, by (try simp only [List.length_append, List.length_singleton, List.length_take]); omega, by first | exact hi.2.2 | simp⟩
            · simp [Weak, TW, hw, encSer_eq, encIsss_eq, encIss_eq, encSpn_eq, encSpns_eq, zSpn] <;> omega
    · skip
      obtain ⟨y, hy1, hy2, _⟩ := at_indexG (l := s.iss) (k := k + 1) (by omega)
      have hyk : k + 1 < s.iss.length := by omega
      have hyn : ¬ ((k : Int) + 1 = (s.iss.length : Int)) := by omega
      have hyn2 : ((k : Int) + 1).toNat = k + 1 := by omega
      have hgy : s.iss.getD (k + 1) zIss = y := by rw [List.getD_eq_getElem?_getD, hy1]; rfl
      -- region 7
      refine AWp.rseq E_ok [0, 1, 2, 3, 4, 5, 6, 7, 13, 40, 44, 46] fun K hK => ?_
      simp [encSer_eq, encIsss_eq, encIss_eq, encSpn_eq, encSpns_eq, zSpn, h13, hkw, hx, hxx, hy1, hy2, hyk, hyn, hyn2]
      try simp (disch := omega) only [wrap_i64]
      repeat refine ⟨by first | omega | assumption | (simp only [maxLen]; omega) | (intros; omega) | decide, ?_⟩
      refine hK _ ?_
      clear hK K
      refine AWp.seq ?_
      -- region 8
      refine AWp.rseq E_ok [0, 1, 2, 3, 4, 5, 6, 7, 13, 40, 44, 46] fun K hK => ?_
      simp [encSer_eq, encIsss_eq, encIss_eq, encSpn_eq, encSpns_eq, zSpn, h13, hkw, hx, hxx, hy1, hy2, hyk, hyn, hyn2]
      try simp (disch := omega) only [wrap_i64]
      repeat refine ⟨by first | omega | assumption | (simp only [maxLen]; omega) | (intros; omega) | decide, ?_⟩
      refine hK _ ?_
      clear hK K
      refine AWp.cond rfl (fun h40 => ?_) (fun h40 => ?_)
      · try simp at h40
        rw [if_neg (by rw [hgy]; rintro (e | e) <;> first | omega | simp_all)] at hs
        refine AWp.exit ?_
        repeat first | refine thenN ?_ | refine thenX ?_ | refine thenR ?_ | refine blockN ?_ | refine blockR ?_ | refine blockX ?_ | refine blockM rfl ?_
        -- region 5
        refine AWp.rend E_ok [0, 1, 2, 3, 4, 5, 6, 7, 13, 40, 44, 46] fun K hK => ?_
        simp [encSer_eq, encIsss_eq, encIss_eq, encSpn_eq, encSpns_eq, zSpn, h13, hkw, hx, hxx, hy1, hy2, hyk, hyn, hyn2]
        try simp (disch := omega) only [wrap_i64]
        repeat refine ⟨by first | omega | assumption | (simp only [maxLen]; omega) | (intros; omega) | decide, ?_⟩
        refine hK _ ?_
        clear hK K
        repeat first | refine thenN ?_ | refine thenX ?_ | refine thenR ?_ | refine blockN ?_ | refine blockR ?_ | refine blockX ?_ | refine blockM rfl ?_
        have hw : IntKind.i64.wrap ((k : Int) + 1) = (k : Int) + 1 := by rw [wrap_i64] <;> omega
        skip
        refine ⟨_, h13, hs, ?_, ?_⟩
        · exact ⟨by omega, by (try simp only [List.length_append, List.length_singleton, List.length_take]); omega, by first | exact hi.2.2 | simp⟩
        · simp [Weak, TW, hw, encSer_eq, encIsss_eq, encIss_eq, encSpn_eq, encSpns_eq, zSpn] <;> omega
      · try simp at h40
        rw [if_pos (by first | exact hlast | (rw [hgy]; exact .inr (h40 hyn)))] at hs
        refine AWp.skip ?_
        repeat first | refine thenN ?_ | refine thenX ?_ | refine thenR ?_ | refine blockN ?_ | refine blockR ?_ | refine blockX ?_ | refine blockM rfl ?_
        refine AWp.seq ?_
        -- region 9
        refine AWp.rseq E_ok [0, 1, 2, 3, 4, 5, 6, 7, 13, 40, 44, 46] fun K hK => ?_
        simp [encSer_eq, encIsss_eq, encIss_eq, encSpn_eq, encSpns_eq, zSpn, h13, hkw, hx, hxx, hy1, hy2, hyk, hyn, hyn2]
        try simp (disch := omega) only [wrap_i64]
        repeat refine ⟨by first | omega | assumption | (simp only [maxLen]; omega) | (intros; omega) | decide, ?_⟩
        refine meet.of (ref37_whole s x.vol (by omega)) ?_
        simp [encSer_eq, encIsss_eq, encIss_eq, encSpn_eq, encSpns_eq, zSpn, h13, hkw, hx, hxx, hy1, hy2, hyk, hyn, hyn2]
        try simp (disch := omega) only [wrap_i64]
        repeat refine ⟨by first | omega | assumption | (simp only [maxLen]; omega) | (intros; omega) | decide, ?_⟩
        refine hK _ ?_
        clear hK K
        refine AWp.cond rfl (fun h44 => ?_) (fun h44 => ?_)
        · try simp at h44
          rw [if_pos (by simpa using h44)] at hs
          -- region 10
          refine AWp.rseq E_ok [0, 1, 2, 3, 4, 5, 6, 7, 13, 40, 44, 46] fun K hK => ?_
          simp [encSer_eq, encIsss_eq, encIss_eq, encSpn_eq, encSpns_eq, zSpn, h13, hkw, hx, hxx, hy1, hy2, hyk, hyn, hyn2]
          try simp (disch := omega) only [wrap_i64]
          repeat refine ⟨by first | omega | assumption | (simp only [maxLen]; omega) | (intros; omega) | decide, ?_⟩
          refine hK _ ?_
          clear hK K
          refine AWp.exit ?_
          repeat first | refine thenN ?_ | refine thenX ?_ | refine thenR ?_ | refine blockN ?_ | refine blockR ?_ | refine blockX ?_ | refine blockM rfl ?_
          -- region 5
          refine AWp.rend E_ok [0, 1, 2, 3, 4, 5, 6, 7, 13, 40, 44, 46] fun K hK => ?_
          simp [encSer_eq, encIsss_eq, encIss_eq, encSpn_eq, encSpns_eq, zSpn, h13, hkw, hx, hxx, hy1, hy2, hyk, hyn, hyn2]
          try simp (disch := omega) only [wrap_i64]
          repeat refine ⟨by first | omega | assumption | (simp only [maxLen]; omega) | (intros; omega) | decide, ?_⟩
          refine hK _ ?_
          clear hK K
          repeat first | refine thenN ?_ | refine thenX ?_ | refine thenR ?_ | refine blockN ?_ | refine blockR ?_ | refine blockX ?_ | refine blockM rfl ?_
          have hw : IntKind.i64.wrap ((k : Int) + 1) = (k : Int) + 1 := by rw [wrap_i64] <;> omega
          skip
          refine ⟨_, h13, hs, ?_, ?_⟩
          · exact ⟨by omega, by (try simp only [List.length_append, List.length_singleton, List.length_take]); omega, by first | exact hi.2.2 | simp⟩
          · simp [Weak, TW, hw, encSer_eq, encIsss_eq, encIss_eq, encSpn_eq, encSpns_eq, zSpn] <;> omega
        · try simp at h44
          rw [if_neg (by simpa using h44)] at hs
          refine AWp.skip ?_
          repeat first | refine thenN ?_ | refine thenX ?_ | refine thenR ?_ | refine blockN ?_ | refine blockR ?_ | refine blockX ?_ | refine blockM rfl ?_
          refine AWp.seq ?_
          -- region 11
          refine AWp.rseq E_ok [0, 1, 2, 3, 4, 5, 6, 7, 13, 40, 44, 46] fun K hK => ?_
          simp [encSer_eq, encIsss_eq, encIss_eq, encSpn_eq, encSpns_eq, zSpn, h13, hkw, hx, hxx, hy1, hy2, hyk, hyn, hyn2]
          try simp (disch := omega) only [wrap_i64]
          repeat refine ⟨by first | omega | assumption | (simp only [maxLen]; omega) | (intros; omega) | decide, ?_⟩
          refine hK _ ?_
          clear hK K
          refine AWp.cond rfl (fun h46 => ?_) (fun h46 => ?_)
          · try simp at h46
            rw [if_pos h46] at hs
            -- region 12
            refine AWp.rseq E_ok [0, 1, 2, 3, 4, 5, 6, 7, 13, 40, 44, 46] fun K hK => ?_
            simp [encSer_eq, encIsss_eq, encIss_eq, encSpn_eq, encSpns_eq, zSpn, h13, hkw, hx, hxx, hy1, hy2, hyk, hyn, hyn2]
            try simp (disch := omega) only [wrap_i64]
            repeat refine ⟨by first | omega | assumption | (simp only [maxLen]; omega) | (intros; omega) | decide, ?_⟩
            refine hK _ ?_
            clear hK K
            -- region 13
            refine AWp.rseq E_ok [0, 1, 2, 3, 4, 5, 6, 7, 13, 40, 44, 46] fun K hK => ?_
            simp [encSer_eq, encIsss_eq, encIss_eq, encSpn_eq, encSpns_eq, zSpn, h13, hkw, hx, hxx, hy1, hy2, hyk, hyn, hyn2]
            try simp (disch := omega) only [wrap_i64]
            repeat refine ⟨by first | omega | assumption | (simp only [maxLen]; omega) | (intros; omega) | decide, ?_⟩
            refine hK _ ?_
            clear hK K
            refine AWp.exit ?_
            repeat first | refine thenN ?_ | refine thenX ?_ | refine thenR ?_ | refine blockN ?_ | refine blockR ?_ | refine blockX ?_ | refine blockM rfl ?_
            -- region 5
            refine AWp.rend E_ok [0, 1, 2, 3, 4, 5, 6, 7, 13, 40, 44, 46] fun K hK => ?_
            simp [encSer_eq, encIsss_eq, encIss_eq, encSpn_eq, encSpns_eq, zSpn, h13, hkw, hx, hxx, hy1, hy2, hyk, hyn, hyn2]
            try simp (disch := omega) only [wrap_i64]
            repeat refine ⟨by first | omega | assumption | (simp only [maxLen]; omega) | (intros; omega) | decide, ?_⟩
            refine hK _ ?_
            clear hK K
            repeat first | refine thenN ?_ | refine thenX ?_ | refine thenR ?_ | refine blockN ?_ | refine blockR ?_ | refine blockX ?_ | refine blockM rfl ?_
            have hw : IntKind.i64.wrap ((k : Int) + 1) = (k : Int) + 1 := by rw [wrap_i64] <;> omega
            skip
            refine ⟨_, h13, hs, ?_, ?_⟩
            · exact ⟨by omega, by (try simp only [List.length_append, List.length_singleton, List.length_take]); omega, by first | exact hi.2.2 | simp⟩
            · simp [Weak, TW, hw, encSer_eq, encIsss_eq, encIss_eq, encSpn_eq, encSpns_eq, zSpn] <;> omega
          · try simp at h46
            rw [if_neg h46] at hs
            obtain ⟨n, z, hn, hon, hz1, hz2, hzo, hdl, hadd⟩ := last_at (hi.2.2 h46)
            rw [hdl] at hs
            have hwn : IntKind.i64.wrap ((n : Int) + 1 - 1) = (n : Int) := by rw [wrap_i64] <;> omega
            have hwn2 : IntKind.i64.wrap (n : Int) = (n : Int) := by rw [wrap_i64] <;> omega
            refine AWp.skip ?_
            repeat first | refine thenN ?_ | refine thenX ?_ | refine thenR ?_ | refine blockN ?_ | refine blockR ?_ | refine blockX ?_ | refine blockM rfl ?_
            -- region 14
            refine AWp.rend E_ok [0, 1, 2, 3, 4, 5, 6, 7, 13, 40, 44, 46] fun K hK => ?_
            simp [encSer_eq, encIsss_eq, encIss_eq, encSpn_eq, encSpns_eq, zSpn, h13, hkw, hx, hxx, hy1, hy2, hyk, hyn, hyn2, hon, hwn, hwn2]
            try simp (disch := omega) only [wrap_i64]
            repeat refine ⟨by first | omega | assumption | (simp only [maxLen]; omega) | (intros; omega) | decide, ?_⟩
            refine hK _ ?_
            clear hK K
            repeat first | refine thenN ?_ | refine thenX ?_ | refine thenR ?_ | refine blockN ?_ | refine blockR ?_ | refine blockX ?_ | refine blockM rfl ?_
            -- region 5
            refine AWp.rend E_ok [0, 1, 2, 3, 4, 5, 6, 7, 13, 40, 44, 46] fun K hK => ?_
            simp [encSer_eq, encIsss_eq, encIss_eq, encSpn_eq, encSpns_eq, zSpn, h13, hkw, hx, hxx, hy1, hy2, hyk, hyn, hyn2, hon, hwn, hwn2]
            try simp (disch := omega) only [wrap_i64]
            repeat refine ⟨by first | omega | assumption | (simp only [maxLen]; omega) | (intros; omega) | decide, ?_⟩
            refine hK _ ?_
            clear hK K
            repeat first | refine thenN ?_ | refine thenX ?_ | refine thenR ?_ | refine blockN ?_ | refine blockR ?_ | refine blockX ?_ | refine blockM rfl ?_
            have hw : IntKind.i64.wrap ((k : Int) + 1) = (k : Int) + 1 := by rw [wrap_i64] <;> omega
            skip
            refine ⟨_, h13, hs, ?_, ?_⟩
            · exact ⟨by omega, by (try simp only [List.length_append, List.length_singleton, List.length_take]); omega, by first | exact hi.2.2 | simp⟩
            · simp [Weak, TW, hw, encSer_eq, encIsss_eq, encIss_eq, encSpn_eq, encSpns_eq, zSpn] <;> omega
  · try simp at h13
    obtain rfl : k = s.iss.length := by omega
    simp [hlrF] at hs
    refine AWp.exit ?_
    repeat first | refine thenN ?_ | refine thenX ?_ | refine thenR ?_ | refine blockN ?_ | refine blockR ?_ | refine blockX ?_ | refine blockM rfl ?_
    -- region 15
    refine AWp.rseq E_ok [0, 1, 2, 3, 4, 5, 6, 7, 13, 40, 44, 46] fun K hK => ?_
    simp [encSer_eq, encIsss_eq, encIss_eq, encSpn_eq, encSpns_eq, zSpn, h13]
    try simp (disch := omega) only [wrap_i64]
    repeat refine ⟨by first | omega | assumption | (simp only [maxLen]; omega) | (intros; omega) | decide, ?_⟩
    refine hK _ ?_
    clear hK K
    refine AWp.ret ?_
    repeat first | refine thenN ?_ | refine thenX ?_ | refine thenR ?_ | refine blockN ?_ | refine blockR ?_ | refine blockX ?_ | refine blockM rfl ?_
    rw [held_ref h] at hs; simp [RetOk, RV, ← hs, encSpns_eq, encSpn_eq, zSpn]
end Go.Proofs.Ytceapemkefaicaa

set_option maxRecDepth 100000
set_option linter.unusedSimpArgs false
set_option linter.unusedVariables false
namespace Go.Proofs.Ytceapemkefaicaa
open Go Ab Pl
set_option maxHeartbeats 4000000 in
theorem law37_SerialHolds (s : Ser) : ACalls E.P 9 [encSer s] (.d (.bool true)) := by
  refine ACalls.intro E_ok Try.func9 rfl rfl Try.ntmps9 Try.results9 (Nat.le_of_ble_eq_true rfl) fun hok base S0 w0 => ?_
  -- region 0
  refine AWp.rseq E_ok [0, 1, 2, 5] fun K hK => ?_
  simp [encSer_eq, encIsss_eq, serR_1, serR_2]
  repeat refine ⟨by first | omega | assumption | (simp only [maxLen]; omega) | (intros; omega) | decide, ?_⟩
  refine hK _ ?_
  clear hK K
  refine AWp.seq ?_
  -- region 1
  refine AWp.rseq E_ok [0, 1, 2, 5] fun K hK => ?_
  simp [encSer_eq, encIsss_eq, serR_1, serR_2]
  repeat refine ⟨by first | omega | assumption | (simp only [maxLen]; omega) | (intros; omega) | decide, ?_⟩
  refine meet.of (law37_valid s) ?_
  simp [encSer_eq, encIsss_eq, serR_1, serR_2]
  repeat refine ⟨by first | omega | assumption | (simp only [maxLen]; omega) | (intros; omega) | decide, ?_⟩
  refine hK _ ?_
  clear hK K
  refine AWp.cond rfl (fun h5 => ?_) (fun h5 => ?_)
  · try simp at h5
    -- region 2
    refine AWp.rseq E_ok [0, 1, 2, 5] fun K hK => ?_
    simp [encSer_eq, encIsss_eq, serR_1, serR_2]
    repeat refine ⟨by first | omega | assumption | (simp only [maxLen]; omega) | (intros; omega) | decide, ?_⟩
    refine meet.of (law37_alive) ?_
    simp [encSer_eq, encIsss_eq, serR_1, serR_2]
    repeat refine ⟨by first | omega | assumption | (simp only [maxLen]; omega) | (intros; omega) | decide, ?_⟩
    refine hK _ ?_
    clear hK K
    refine AWp.ret ?_
    repeat first | refine thenN ?_ | refine thenX ?_ | refine thenR ?_ | refine blockN ?_ | refine blockR ?_ | refine blockX ?_ | refine blockM rfl ?_
    simp [RetOk, RV]
  · try simp at h5
    have hv := h5
    have h : SerOk s := serR_ok (by simpa using hv.2)
    have hlen := len_held h
    have hlen2 := len_gaps h
    refine AWp.skip ?_
    repeat first | refine thenN ?_ | refine thenX ?_ | refine thenR ?_ | refine blockN ?_ | refine blockR ?_ | refine blockX ?_ | refine blockM rfl ?_
    -- region 3, every order
    refine AWp.rseqS E_ok mixed [0, 1, 2, 5] (n := 16) (l := #[false, false, false, false, false, false, false, false, false, false, false, false, false, false, false, false]) rfl (by kernel_rfl) fun K hK => ?_
    suffices hnext : K [(0, T.val (D.agg [D.int IntKind.i64 s.rcd, D.int IntKind.i64 s.pat.start, D.int IntKind.i64 s.pat.every, D.int IntKind.i64 s.pat.per, D.int IntKind.i64 s.pat.first, encInts s.pat.skip, encInts s.pat.dbl, D.int IntKind.i64 s.next, (encIss zIss).slice (List.map encIss s.iss)])), (1, T.box [C.d (D.int IntKind.i64 s.rcd), C.d (D.int IntKind.i64 s.pat.start), C.d (D.int IntKind.i64 s.pat.every), C.d (D.int IntKind.i64 s.pat.per), C.d (D.int IntKind.i64 s.pat.first), C.d (encInts s.pat.skip), C.d (encInts s.pat.dbl), C.d (D.int IntKind.i64 s.next), C.d ((encIss zIss).slice (List.map encIss s.iss))]), (2, T.val (D.bool true)), (5, T.val (D.bool (!smallS s || !decide (serR s = (0 : Int)))))] by
      refine contS.cut 0 #[true, true, true, true, true, true, true, true, true, true, true, true, true, true, true, true] [(0, T.val (D.agg [D.int IntKind.i64 s.rcd, D.int IntKind.i64 s.pat.start, D.int IntKind.i64 s.pat.every, D.int IntKind.i64 s.pat.per, D.int IntKind.i64 s.pat.first, encInts s.pat.skip, encInts s.pat.dbl, D.int IntKind.i64 s.next, (encIss zIss).slice (List.map encIss s.iss)])), (1, T.box [C.d (D.int IntKind.i64 s.rcd), C.d (D.int IntKind.i64 s.pat.start), C.d (D.int IntKind.i64 s.pat.every), C.d (D.int IntKind.i64 s.pat.per), C.d (D.int IntKind.i64 s.pat.first), C.d (encInts s.pat.skip), C.d (encInts s.pat.dbl), C.d (D.int IntKind.i64 s.next), C.d ((encIss zIss).slice (List.map encIss s.iss))]), (2, T.val (D.bool true)), (5, T.val (D.bool (!smallS s || !decide (serR s = (0 : Int)))))] ?_ fun h_0_1_2_3_4_6_7_8_9_10_13_ => ?_
      · skip
        refine coreS.nil (by kernel_rfl) ?_
        simpa [encSer_eq, encIsss_eq, serR_1, serR_2] using hnext
      refine contS.cut 3 #[true, true, true, true, true, true, true, true, true, true, true, true, true, false, false, false] [(0, T.val (D.agg [D.int IntKind.i64 s.rcd, D.int IntKind.i64 s.pat.start, D.int IntKind.i64 s.pat.every, D.int IntKind.i64 s.pat.per, D.int IntKind.i64 s.pat.first, encInts s.pat.skip, encInts s.pat.dbl, D.int IntKind.i64 s.next, (encIss zIss).slice (List.map encIss s.iss)])), (1, T.box [C.d (D.int IntKind.i64 s.rcd), C.d (D.int IntKind.i64 s.pat.start), C.d (D.int IntKind.i64 s.pat.every), C.d (D.int IntKind.i64 s.pat.per), C.d (D.int IntKind.i64 s.pat.first), C.d (encInts s.pat.skip), C.d (encInts s.pat.dbl), C.d (D.int IntKind.i64 s.next), C.d ((encIss zIss).slice (List.map encIss s.iss))]), (2, T.val (D.bool false)), (5, T.val (D.bool (!smallS s || !decide (serR s = (0 : Int))))), (19, T.val (D.bool true))] ?_ fun h_0_1_2_3_4_6_7_8_9_10 => ?_
      · skip
        refine coreS.step E_ok [13] (by kernel_rfl) (by simp) ?_
        refine anyS.cons rfl ?_ ?_
        · skip
          simp [encSer_eq, encIsss_eq, serR_1, serR_2]
          repeat refine ⟨by first | omega | assumption | (simp only [maxLen]; omega) | (intros; omega) | decide, ?_⟩
          refine meet.of (law37_alive) ?_
          simp [encSer_eq, encIsss_eq, serR_1, serR_2]
          repeat refine ⟨by first | omega | assumption | (simp only [maxLen]; omega) | (intros; omega) | decide, ?_⟩
          refine contS.now (f' := 2) (l' := #[true, true, true, true, true, true, true, true, true, true, true, true, true, true, false, false]) ?_ rfl (by kernel_rfl)
          refine coreS.dry E_ok (by kernel_rfl) 14 rfl rfl (by kernel_rfl) (by kernel_rfl) ?_
          simp [encSer_eq, encIsss_eq, serR_1, serR_2]
          repeat refine ⟨by first | omega | assumption | (simp only [maxLen]; omega) | (intros; omega) | decide, ?_⟩
          refine contS.now (f' := 1) (l' := #[true, true, true, true, true, true, true, true, true, true, true, true, true, true, true, false]) ?_ rfl (by kernel_rfl)
          refine coreS.dry E_ok (by kernel_rfl) 15 rfl rfl (by kernel_rfl) (by kernel_rfl) ?_
          simp [encSer_eq, encIsss_eq, serR_1, serR_2]
          repeat refine ⟨by first | omega | assumption | (simp only [maxLen]; omega) | (intros; omega) | decide, ?_⟩
          exact contS.mk (by simp [Weak, TW, T.plain, encSer_eq, encIsss_eq, serR_1, serR_2]) h_0_1_2_3_4_6_7_8_9_10_13_ (by kernel_rfl)
        exact anyS.nil
      refine contS.cut 6 #[true, true, true, true, true, true, true, true, true, true, false, false, false, false, false, false] [(0, T.val (D.agg [D.int IntKind.i64 s.rcd, D.int IntKind.i64 s.pat.start, D.int IntKind.i64 s.pat.every, D.int IntKind.i64 s.pat.per, D.int IntKind.i64 s.pat.first, encInts s.pat.skip, encInts s.pat.dbl, D.int IntKind.i64 s.next, (encIss zIss).slice (List.map encIss s.iss)])), (1, T.box [C.d (D.int IntKind.i64 s.rcd), C.d (D.int IntKind.i64 s.pat.start), C.d (D.int IntKind.i64 s.pat.every), C.d (D.int IntKind.i64 s.pat.per), C.d (D.int IntKind.i64 s.pat.first), C.d (encInts s.pat.skip), C.d (encInts s.pat.dbl), C.d (D.int IntKind.i64 s.next), C.d ((encIss zIss).slice (List.map encIss s.iss))]), (2, T.val (D.bool false)), (5, T.val (D.bool (!smallS s || !decide (serR s = (0 : Int))))), (12, T.val (D.bool true)), (14, T.opt [true] (T.val (encInts (gapsR s)))), (16, T.opt [true] (T.val (encInts (gapsR s))))] ?_ fun h_0_1_2_3_4_6_7_8_9 => ?_
      · skip
        refine coreS.step E_ok [10] (by kernel_rfl) (by simp) ?_
        refine anyS.cons rfl ?_ ?_
        · skip
          simp [encSer_eq, encIsss_eq, serR_1, serR_2]
          repeat refine ⟨by first | omega | assumption | (simp only [maxLen]; omega) | (intros; omega) | decide, ?_⟩
          refine meet.of (law37_same (gapsR s) (gapsR s) hlen2) ?_
          simp [encSer_eq, encIsss_eq, serR_1, serR_2]
          repeat refine ⟨by first | omega | assumption | (simp only [maxLen]; omega) | (intros; omega) | decide, ?_⟩
          refine contS.now (f' := 5) (l' := #[true, true, true, true, true, true, true, true, true, true, true, false, false, false, false, false]) ?_ rfl (by kernel_rfl)
          refine coreS.dry E_ok (by kernel_rfl) 11 rfl rfl (by kernel_rfl) (by kernel_rfl) ?_
          simp [encSer_eq, encIsss_eq, serR_1, serR_2]
          repeat refine ⟨by first | omega | assumption | (simp only [maxLen]; omega) | (intros; omega) | decide, ?_⟩
          refine contS.now (f' := 4) (l' := #[true, true, true, true, true, true, true, true, true, true, true, true, false, false, false, false]) ?_ rfl (by kernel_rfl)
          refine coreS.dry E_ok (by kernel_rfl) 12 rfl rfl (by kernel_rfl) (by kernel_rfl) ?_
          simp [encSer_eq, encIsss_eq, serR_1, serR_2]
          repeat refine ⟨by first | omega | assumption | (simp only [maxLen]; omega) | (intros; omega) | decide, ?_⟩
          exact contS.mk (by simp [Weak, TW, T.plain, encSer_eq, encIsss_eq, serR_1, serR_2]) h_0_1_2_3_4_6_7_8_9_10 (by kernel_rfl)
        exact anyS.nil
      refine contS.cut 7 #[true, true, true, true, true, true, true, true, true, false, false, false, false, false, false, false] [(0, T.val (D.agg [D.int IntKind.i64 s.rcd, D.int IntKind.i64 s.pat.start, D.int IntKind.i64 s.pat.every, D.int IntKind.i64 s.pat.per, D.int IntKind.i64 s.pat.first, encInts s.pat.skip, encInts s.pat.dbl, D.int IntKind.i64 s.next, (encIss zIss).slice (List.map encIss s.iss)])), (1, T.box [C.d (D.int IntKind.i64 s.rcd), C.d (D.int IntKind.i64 s.pat.start), C.d (D.int IntKind.i64 s.pat.every), C.d (D.int IntKind.i64 s.pat.per), C.d (D.int IntKind.i64 s.pat.first), C.d (encInts s.pat.skip), C.d (encInts s.pat.dbl), C.d (D.int IntKind.i64 s.next), C.d ((encIss zIss).slice (List.map encIss s.iss))]), (2, T.val (D.bool false)), (5, T.val (D.bool (!smallS s || !decide (serR s = (0 : Int))))), (12, T.val (D.bool true)), (14, T.opt [true] (T.val (encInts (gapsR s)))), (15, T.opt [true] (T.val (D.agg [D.int IntKind.i64 s.rcd, D.int IntKind.i64 s.pat.start, D.int IntKind.i64 s.pat.every, D.int IntKind.i64 s.pat.per, D.int IntKind.i64 s.pat.first, encInts s.pat.skip, encInts s.pat.dbl, D.int IntKind.i64 s.next, (encIss zIss).slice (List.map encIss s.iss)])))] ?_ fun h_0_1_2_3_4_6_7_8 => ?_
      · skip
        refine coreS.step E_ok [9] (by kernel_rfl) (by simp) ?_
        refine anyS.cons rfl ?_ ?_
        · skip
          simp [encSer_eq, encIsss_eq, serR_1, serR_2]
          repeat refine ⟨by first | omega | assumption | (simp only [maxLen]; omega) | (intros; omega) | decide, ?_⟩
          refine meet.of (ref37_Gaps s (by have := h.len; omega)) ?_
          simp [encSer_eq, encIsss_eq, serR_1, serR_2]
          repeat refine ⟨by first | omega | assumption | (simp only [maxLen]; omega) | (intros; omega) | decide, ?_⟩
          exact contS.mk (by simp [Weak, TW, T.plain, encSer_eq, encIsss_eq, serR_1, serR_2]) h_0_1_2_3_4_6_7_8_9 (by kernel_rfl)
        exact anyS.nil
      refine contS.cut 8 #[true, true, true, true, true, true, true, true, false, false, false, false, false, false, false, false] [(0, T.val (D.agg [D.int IntKind.i64 s.rcd, D.int IntKind.i64 s.pat.start, D.int IntKind.i64 s.pat.every, D.int IntKind.i64 s.pat.per, D.int IntKind.i64 s.pat.first, encInts s.pat.skip, encInts s.pat.dbl, D.int IntKind.i64 s.next, (encIss zIss).slice (List.map encIss s.iss)])), (1, T.box [C.d (D.int IntKind.i64 s.rcd), C.d (D.int IntKind.i64 s.pat.start), C.d (D.int IntKind.i64 s.pat.every), C.d (D.int IntKind.i64 s.pat.per), C.d (D.int IntKind.i64 s.pat.first), C.d (encInts s.pat.skip), C.d (encInts s.pat.dbl), C.d (D.int IntKind.i64 s.next), C.d ((encIss zIss).slice (List.map encIss s.iss))]), (2, T.val (D.bool false)), (5, T.val (D.bool (!smallS s || !decide (serR s = (0 : Int))))), (12, T.val (D.bool true)), (14, T.opt [true] (T.val (encInts (gapsR s))))] ?_ fun h_0_1_2_3_4_6_7 => ?_
      · skip
        refine coreS.step E_ok [8] (by kernel_rfl) (by simp) ?_
        refine anyS.cons rfl ?_ ?_
        · skip
          simp [encSer_eq, encIsss_eq, serR_1, serR_2]
          repeat refine ⟨by first | omega | assumption | (simp only [maxLen]; omega) | (intros; omega) | decide, ?_⟩
          exact contS.mk (by simp [Weak, TW, T.plain, encSer_eq, encIsss_eq, serR_1, serR_2]) h_0_1_2_3_4_6_7_8 (by kernel_rfl)
        exact anyS.nil
      refine contS.cut 8 #[true, true, true, true, true, true, true, false, true, false, false, false, false, false, false, false] [(0, T.val (D.agg [D.int IntKind.i64 s.rcd, D.int IntKind.i64 s.pat.start, D.int IntKind.i64 s.pat.every, D.int IntKind.i64 s.pat.per, D.int IntKind.i64 s.pat.first, encInts s.pat.skip, encInts s.pat.dbl, D.int IntKind.i64 s.next, (encIss zIss).slice (List.map encIss s.iss)])), (1, T.box [C.d (D.int IntKind.i64 s.rcd), C.d (D.int IntKind.i64 s.pat.start), C.d (D.int IntKind.i64 s.pat.every), C.d (D.int IntKind.i64 s.pat.per), C.d (D.int IntKind.i64 s.pat.first), C.d (encInts s.pat.skip), C.d (encInts s.pat.dbl), C.d (D.int IntKind.i64 s.next), C.d ((encIss zIss).slice (List.map encIss s.iss))]), (2, T.val (D.bool false)), (5, T.val (D.bool (!smallS s || !decide (serR s = (0 : Int))))), (12, T.val (D.bool true)), (13, T.opt [true] (T.val (D.agg [D.int IntKind.i64 s.rcd, D.int IntKind.i64 s.pat.start, D.int IntKind.i64 s.pat.every, D.int IntKind.i64 s.pat.per, D.int IntKind.i64 s.pat.first, encInts s.pat.skip, encInts s.pat.dbl, D.int IntKind.i64 s.next, (encIss zIss).slice (List.map encIss s.iss)]))), (15, T.opt [true] (T.val (D.agg [D.int IntKind.i64 s.rcd, D.int IntKind.i64 s.pat.start, D.int IntKind.i64 s.pat.every, D.int IntKind.i64 s.pat.per, D.int IntKind.i64 s.pat.first, encInts s.pat.skip, encInts s.pat.dbl, D.int IntKind.i64 s.next, (encIss zIss).slice (List.map encIss s.iss)])))] ?_ fun h_0_1_2_3_4_6_8 => ?_
      · skip
        refine coreS.step E_ok [7] (by kernel_rfl) (by simp) ?_
        refine anyS.cons rfl ?_ ?_
        · skip
          simp [encSer_eq, encIsss_eq, serR_1, serR_2]
          repeat refine ⟨by first | omega | assumption | (simp only [maxLen]; omega) | (intros; omega) | decide, ?_⟩
          refine meet.of (serial_Gaps s (by have := h.len; omega)) ?_
          simp [encSer_eq, encIsss_eq, serR_1, serR_2]
          repeat refine ⟨by first | omega | assumption | (simp only [maxLen]; omega) | (intros; omega) | decide, ?_⟩
          exact contS.mk (by simp [Weak, TW, T.plain, encSer_eq, encIsss_eq, serR_1, serR_2]) h_0_1_2_3_4_6_7_8 (by kernel_rfl)
        exact anyS.nil
      refine contS.cut 9 #[true, true, true, true, true, true, true, false, false, false, false, false, false, false, false, false] [(0, T.val (D.agg [D.int IntKind.i64 s.rcd, D.int IntKind.i64 s.pat.start, D.int IntKind.i64 s.pat.every, D.int IntKind.i64 s.pat.per, D.int IntKind.i64 s.pat.first, encInts s.pat.skip, encInts s.pat.dbl, D.int IntKind.i64 s.next, (encIss zIss).slice (List.map encIss s.iss)])), (1, T.box [C.d (D.int IntKind.i64 s.rcd), C.d (D.int IntKind.i64 s.pat.start), C.d (D.int IntKind.i64 s.pat.every), C.d (D.int IntKind.i64 s.pat.per), C.d (D.int IntKind.i64 s.pat.first), C.d (encInts s.pat.skip), C.d (encInts s.pat.dbl), C.d (D.int IntKind.i64 s.next), C.d ((encIss zIss).slice (List.map encIss s.iss))]), (2, T.val (D.bool false)), (5, T.val (D.bool (!smallS s || !decide (serR s = (0 : Int))))), (12, T.val (D.bool true)), (13, T.opt [true] (T.val (D.agg [D.int IntKind.i64 s.rcd, D.int IntKind.i64 s.pat.start, D.int IntKind.i64 s.pat.every, D.int IntKind.i64 s.pat.per, D.int IntKind.i64 s.pat.first, encInts s.pat.skip, encInts s.pat.dbl, D.int IntKind.i64 s.next, (encIss zIss).slice (List.map encIss s.iss)])))] ?_ fun h_0_1_2_3_4_6 => ?_
      · skip
        refine coreS.step E_ok [7, 8] (by kernel_rfl) (by simp) ?_
        refine anyS.cons rfl ?_ ?_
        · skip
          simp [encSer_eq, encIsss_eq, serR_1, serR_2]
          repeat refine ⟨by first | omega | assumption | (simp only [maxLen]; omega) | (intros; omega) | decide, ?_⟩
          refine meet.of (serial_Gaps s (by have := h.len; omega)) ?_
          simp [encSer_eq, encIsss_eq, serR_1, serR_2]
          repeat refine ⟨by first | omega | assumption | (simp only [maxLen]; omega) | (intros; omega) | decide, ?_⟩
          exact contS.mk (by simp [Weak, TW, T.plain, encSer_eq, encIsss_eq, serR_1, serR_2]) h_0_1_2_3_4_6_7 (by kernel_rfl)
        refine anyS.cons rfl ?_ ?_
        · skip
          simp [encSer_eq, encIsss_eq, serR_1, serR_2]
          repeat refine ⟨by first | omega | assumption | (simp only [maxLen]; omega) | (intros; omega) | decide, ?_⟩
          exact contS.mk (by simp [Weak, TW, T.plain, encSer_eq, encIsss_eq, serR_1, serR_2]) h_0_1_2_3_4_6_8 (by kernel_rfl)
        exact anyS.nil
      refine contS.cut 9 #[true, true, true, true, true, true, false, false, true, false, false, false, false, false, false, false] [(0, T.val (D.agg [D.int IntKind.i64 s.rcd, D.int IntKind.i64 s.pat.start, D.int IntKind.i64 s.pat.every, D.int IntKind.i64 s.pat.per, D.int IntKind.i64 s.pat.first, encInts s.pat.skip, encInts s.pat.dbl, D.int IntKind.i64 s.next, (encIss zIss).slice (List.map encIss s.iss)])), (1, T.box [C.d (D.int IntKind.i64 s.rcd), C.d (D.int IntKind.i64 s.pat.start), C.d (D.int IntKind.i64 s.pat.every), C.d (D.int IntKind.i64 s.pat.per), C.d (D.int IntKind.i64 s.pat.first), C.d (encInts s.pat.skip), C.d (encInts s.pat.dbl), C.d (D.int IntKind.i64 s.next), C.d ((encIss zIss).slice (List.map encIss s.iss))]), (2, T.val (D.bool false)), (5, T.val (D.bool (!smallS s || !decide (serR s = (0 : Int))))), (12, T.val (D.bool true)), (15, T.opt [true] (T.val (D.agg [D.int IntKind.i64 s.rcd, D.int IntKind.i64 s.pat.start, D.int IntKind.i64 s.pat.every, D.int IntKind.i64 s.pat.per, D.int IntKind.i64 s.pat.first, encInts s.pat.skip, encInts s.pat.dbl, D.int IntKind.i64 s.next, (encIss zIss).slice (List.map encIss s.iss)])))] ?_ fun h_0_1_2_3_4_8 => ?_
      · skip
        refine coreS.step E_ok [6] (by kernel_rfl) (by simp) ?_
        refine anyS.cons rfl ?_ ?_
        · skip
          simp [encSer_eq, encIsss_eq, serR_1, serR_2]
          repeat refine ⟨by first | omega | assumption | (simp only [maxLen]; omega) | (intros; omega) | decide, ?_⟩
          exact contS.mk (by simp [Weak, TW, T.plain, encSer_eq, encIsss_eq, serR_1, serR_2]) h_0_1_2_3_4_6_8 (by kernel_rfl)
        exact anyS.nil
      refine contS.cut 10 #[true, true, true, true, true, true, false, false, false, false, false, false, false, false, false, false] [(0, T.val (D.agg [D.int IntKind.i64 s.rcd, D.int IntKind.i64 s.pat.start, D.int IntKind.i64 s.pat.every, D.int IntKind.i64 s.pat.per, D.int IntKind.i64 s.pat.first, encInts s.pat.skip, encInts s.pat.dbl, D.int IntKind.i64 s.next, (encIss zIss).slice (List.map encIss s.iss)])), (1, T.box [C.d (D.int IntKind.i64 s.rcd), C.d (D.int IntKind.i64 s.pat.start), C.d (D.int IntKind.i64 s.pat.every), C.d (D.int IntKind.i64 s.pat.per), C.d (D.int IntKind.i64 s.pat.first), C.d (encInts s.pat.skip), C.d (encInts s.pat.dbl), C.d (D.int IntKind.i64 s.next), C.d ((encIss zIss).slice (List.map encIss s.iss))]), (2, T.val (D.bool false)), (5, T.val (D.bool (!smallS s || !decide (serR s = (0 : Int))))), (12, T.val (D.bool true))] ?_ fun h_0_1_2_3_4 => ?_
      · skip
        refine coreS.step E_ok [6, 8] (by kernel_rfl) (by simp) ?_
        refine anyS.cons rfl ?_ ?_
        · skip
          simp [encSer_eq, encIsss_eq, serR_1, serR_2]
          repeat refine ⟨by first | omega | assumption | (simp only [maxLen]; omega) | (intros; omega) | decide, ?_⟩
          exact contS.mk (by simp [Weak, TW, T.plain, encSer_eq, encIsss_eq, serR_1, serR_2]) h_0_1_2_3_4_6 (by kernel_rfl)
        refine anyS.cons rfl ?_ ?_
        · skip
          simp [encSer_eq, encIsss_eq, serR_1, serR_2]
          repeat refine ⟨by first | omega | assumption | (simp only [maxLen]; omega) | (intros; omega) | decide, ?_⟩
          exact contS.mk (by simp [Weak, TW, T.plain, encSer_eq, encIsss_eq, serR_1, serR_2]) h_0_1_2_3_4_8 (by kernel_rfl)
        exact anyS.nil
      refine contS.cut 12 #[true, true, true, true, false, false, false, false, false, false, false, false, false, false, false, false] [(0, T.val (D.agg [D.int IntKind.i64 s.rcd, D.int IntKind.i64 s.pat.start, D.int IntKind.i64 s.pat.every, D.int IntKind.i64 s.pat.per, D.int IntKind.i64 s.pat.first, encInts s.pat.skip, encInts s.pat.dbl, D.int IntKind.i64 s.next, (encIss zIss).slice (List.map encIss s.iss)])), (1, T.box [C.d (D.int IntKind.i64 s.rcd), C.d (D.int IntKind.i64 s.pat.start), C.d (D.int IntKind.i64 s.pat.every), C.d (D.int IntKind.i64 s.pat.per), C.d (D.int IntKind.i64 s.pat.first), C.d (encInts s.pat.skip), C.d (encInts s.pat.dbl), C.d (D.int IntKind.i64 s.next), C.d ((encIss zIss).slice (List.map encIss s.iss))]), (2, T.val (D.bool false)), (5, T.val (D.bool (!smallS s || !decide (serR s = (0 : Int))))), (8, T.val (encSpns (heldR s))), (10, T.val (encSpns (heldR s)))] ?_ fun h_0_1_2_3 => ?_
      · skip
        refine coreS.step E_ok [4] (by kernel_rfl) (by simp) ?_
        refine anyS.cons rfl ?_ ?_
        · skip
          simp [encSer_eq, encIsss_eq, serR_1, serR_2]
          repeat refine ⟨by first | omega | assumption | (simp only [maxLen]; omega) | (intros; omega) | decide, ?_⟩
          refine meet.of (law37_spans (heldR s) (heldR s) hlen) ?_
          simp [encSer_eq, encIsss_eq, serR_1, serR_2]
          repeat refine ⟨by first | omega | assumption | (simp only [maxLen]; omega) | (intros; omega) | decide, ?_⟩
          refine contS.now (f' := 11) (l' := #[true, true, true, true, true, false, false, false, false, false, false, false, false, false, false, false]) ?_ rfl (by kernel_rfl)
          refine coreS.dry E_ok (by kernel_rfl) 5 rfl rfl (by kernel_rfl) (by kernel_rfl) ?_
          simp [encSer_eq, encIsss_eq, serR_1, serR_2]
          repeat refine ⟨by first | omega | assumption | (simp only [maxLen]; omega) | (intros; omega) | decide, ?_⟩
          exact contS.mk (by simp [Weak, TW, T.plain, encSer_eq, encIsss_eq, serR_1, serR_2]) h_0_1_2_3_4 (by kernel_rfl)
        exact anyS.nil
      refine contS.cut 13 #[true, true, true, false, false, false, false, false, false, false, false, false, false, false, false, false] [(0, T.val (D.agg [D.int IntKind.i64 s.rcd, D.int IntKind.i64 s.pat.start, D.int IntKind.i64 s.pat.every, D.int IntKind.i64 s.pat.per, D.int IntKind.i64 s.pat.first, encInts s.pat.skip, encInts s.pat.dbl, D.int IntKind.i64 s.next, (encIss zIss).slice (List.map encIss s.iss)])), (1, T.box [C.d (D.int IntKind.i64 s.rcd), C.d (D.int IntKind.i64 s.pat.start), C.d (D.int IntKind.i64 s.pat.every), C.d (D.int IntKind.i64 s.pat.per), C.d (D.int IntKind.i64 s.pat.first), C.d (encInts s.pat.skip), C.d (encInts s.pat.dbl), C.d (D.int IntKind.i64 s.next), C.d ((encIss zIss).slice (List.map encIss s.iss))]), (2, T.val (D.bool false)), (5, T.val (D.bool (!smallS s || !decide (serR s = (0 : Int))))), (8, T.val (encSpns (heldR s))), (9, T.val (D.agg [D.int IntKind.i64 s.rcd, D.int IntKind.i64 s.pat.start, D.int IntKind.i64 s.pat.every, D.int IntKind.i64 s.pat.per, D.int IntKind.i64 s.pat.first, encInts s.pat.skip, encInts s.pat.dbl, D.int IntKind.i64 s.next, (encIss zIss).slice (List.map encIss s.iss)]))] ?_ fun h_0_1_2 => ?_
      · skip
        refine coreS.step E_ok [3] (by kernel_rfl) (by simp) ?_
        refine anyS.cons rfl ?_ ?_
        · skip
          simp [encSer_eq, encIsss_eq, serR_1, serR_2]
          repeat refine ⟨by first | omega | assumption | (simp only [maxLen]; omega) | (intros; omega) | decide, ?_⟩
          refine meet.of (ref37_Held s h) ?_
          simp [encSer_eq, encIsss_eq, serR_1, serR_2]
          repeat refine ⟨by first | omega | assumption | (simp only [maxLen]; omega) | (intros; omega) | decide, ?_⟩
          exact contS.mk (by simp [Weak, TW, T.plain, encSer_eq, encIsss_eq, serR_1, serR_2]) h_0_1_2_3 (by kernel_rfl)
        exact anyS.nil
      refine contS.cut 14 #[true, true, false, false, false, false, false, false, false, false, false, false, false, false, false, false] [(0, T.val (D.agg [D.int IntKind.i64 s.rcd, D.int IntKind.i64 s.pat.start, D.int IntKind.i64 s.pat.every, D.int IntKind.i64 s.pat.per, D.int IntKind.i64 s.pat.first, encInts s.pat.skip, encInts s.pat.dbl, D.int IntKind.i64 s.next, (encIss zIss).slice (List.map encIss s.iss)])), (1, T.box [C.d (D.int IntKind.i64 s.rcd), C.d (D.int IntKind.i64 s.pat.start), C.d (D.int IntKind.i64 s.pat.every), C.d (D.int IntKind.i64 s.pat.per), C.d (D.int IntKind.i64 s.pat.first), C.d (encInts s.pat.skip), C.d (encInts s.pat.dbl), C.d (D.int IntKind.i64 s.next), C.d ((encIss zIss).slice (List.map encIss s.iss))]), (2, T.val (D.bool false)), (5, T.val (D.bool (!smallS s || !decide (serR s = (0 : Int))))), (8, T.val (encSpns (heldR s)))] ?_ fun h_0_1 => ?_
      · skip
        refine coreS.step E_ok [2] (by kernel_rfl) (by simp) ?_
        refine anyS.cons rfl ?_ ?_
        · skip
          simp [encSer_eq, encIsss_eq, serR_1, serR_2]
          repeat refine ⟨by first | omega | assumption | (simp only [maxLen]; omega) | (intros; omega) | decide, ?_⟩
          exact contS.mk (by simp [Weak, TW, T.plain, encSer_eq, encIsss_eq, serR_1, serR_2]) h_0_1_2 (by kernel_rfl)
        exact anyS.nil
      refine contS.cut 14 #[true, false, true, false, false, false, false, false, false, false, false, false, false, false, false, false] [(0, T.val (D.agg [D.int IntKind.i64 s.rcd, D.int IntKind.i64 s.pat.start, D.int IntKind.i64 s.pat.every, D.int IntKind.i64 s.pat.per, D.int IntKind.i64 s.pat.first, encInts s.pat.skip, encInts s.pat.dbl, D.int IntKind.i64 s.next, (encIss zIss).slice (List.map encIss s.iss)])), (1, T.box [C.d (D.int IntKind.i64 s.rcd), C.d (D.int IntKind.i64 s.pat.start), C.d (D.int IntKind.i64 s.pat.every), C.d (D.int IntKind.i64 s.pat.per), C.d (D.int IntKind.i64 s.pat.first), C.d (encInts s.pat.skip), C.d (encInts s.pat.dbl), C.d (D.int IntKind.i64 s.next), C.d ((encIss zIss).slice (List.map encIss s.iss))]), (2, T.val (D.bool false)), (5, T.val (D.bool (!smallS s || !decide (serR s = (0 : Int))))), (7, T.val (D.agg [D.int IntKind.i64 s.rcd, D.int IntKind.i64 s.pat.start, D.int IntKind.i64 s.pat.every, D.int IntKind.i64 s.pat.per, D.int IntKind.i64 s.pat.first, encInts s.pat.skip, encInts s.pat.dbl, D.int IntKind.i64 s.next, (encIss zIss).slice (List.map encIss s.iss)])), (9, T.val (D.agg [D.int IntKind.i64 s.rcd, D.int IntKind.i64 s.pat.start, D.int IntKind.i64 s.pat.every, D.int IntKind.i64 s.pat.per, D.int IntKind.i64 s.pat.first, encInts s.pat.skip, encInts s.pat.dbl, D.int IntKind.i64 s.next, (encIss zIss).slice (List.map encIss s.iss)]))] ?_ fun h_0_2 => ?_
      · skip
        refine coreS.step E_ok [1] (by kernel_rfl) (by simp) ?_
        refine anyS.cons rfl ?_ ?_
        · skip
          simp [encSer_eq, encIsss_eq, serR_1, serR_2]
          repeat refine ⟨by first | omega | assumption | (simp only [maxLen]; omega) | (intros; omega) | decide, ?_⟩
          refine meet.of (serial_Held s (by have := h.len; omega) (fun x hx => by have := h.rng hx; omega)) ?_
          simp [encSer_eq, encIsss_eq, serR_1, serR_2]
          repeat refine ⟨by first | omega | assumption | (simp only [maxLen]; omega) | (intros; omega) | decide, ?_⟩
          exact contS.mk (by simp [Weak, TW, T.plain, encSer_eq, encIsss_eq, serR_1, serR_2]) h_0_1_2 (by kernel_rfl)
        exact anyS.nil
      refine contS.cut 15 #[true, false, false, false, false, false, false, false, false, false, false, false, false, false, false, false] [(0, T.val (D.agg [D.int IntKind.i64 s.rcd, D.int IntKind.i64 s.pat.start, D.int IntKind.i64 s.pat.every, D.int IntKind.i64 s.pat.per, D.int IntKind.i64 s.pat.first, encInts s.pat.skip, encInts s.pat.dbl, D.int IntKind.i64 s.next, (encIss zIss).slice (List.map encIss s.iss)])), (1, T.box [C.d (D.int IntKind.i64 s.rcd), C.d (D.int IntKind.i64 s.pat.start), C.d (D.int IntKind.i64 s.pat.every), C.d (D.int IntKind.i64 s.pat.per), C.d (D.int IntKind.i64 s.pat.first), C.d (encInts s.pat.skip), C.d (encInts s.pat.dbl), C.d (D.int IntKind.i64 s.next), C.d ((encIss zIss).slice (List.map encIss s.iss))]), (2, T.val (D.bool false)), (5, T.val (D.bool (!smallS s || !decide (serR s = (0 : Int))))), (7, T.val (D.agg [D.int IntKind.i64 s.rcd, D.int IntKind.i64 s.pat.start, D.int IntKind.i64 s.pat.every, D.int IntKind.i64 s.pat.per, D.int IntKind.i64 s.pat.first, encInts s.pat.skip, encInts s.pat.dbl, D.int IntKind.i64 s.next, (encIss zIss).slice (List.map encIss s.iss)]))] ?_ fun h_0 => ?_
      · skip
        refine coreS.step E_ok [1, 2] (by kernel_rfl) (by simp) ?_
        refine anyS.cons rfl ?_ ?_
        · skip
          simp [encSer_eq, encIsss_eq, serR_1, serR_2]
          repeat refine ⟨by first | omega | assumption | (simp only [maxLen]; omega) | (intros; omega) | decide, ?_⟩
          refine meet.of (serial_Held s (by have := h.len; omega) (fun x hx => by have := h.rng hx; omega)) ?_
          simp [encSer_eq, encIsss_eq, serR_1, serR_2]
          repeat refine ⟨by first | omega | assumption | (simp only [maxLen]; omega) | (intros; omega) | decide, ?_⟩
          exact contS.mk (by simp [Weak, TW, T.plain, encSer_eq, encIsss_eq, serR_1, serR_2]) h_0_1 (by kernel_rfl)
        refine anyS.cons rfl ?_ ?_
        · skip
          simp [encSer_eq, encIsss_eq, serR_1, serR_2]
          repeat refine ⟨by first | omega | assumption | (simp only [maxLen]; omega) | (intros; omega) | decide, ?_⟩
          exact contS.mk (by simp [Weak, TW, T.plain, encSer_eq, encIsss_eq, serR_1, serR_2]) h_0_2 (by kernel_rfl)
        exact anyS.nil
      refine contS.cut 15 #[false, false, true, false, false, false, false, false, false, false, false, false, false, false, false, false] [(0, T.val (D.agg [D.int IntKind.i64 s.rcd, D.int IntKind.i64 s.pat.start, D.int IntKind.i64 s.pat.every, D.int IntKind.i64 s.pat.per, D.int IntKind.i64 s.pat.first, encInts s.pat.skip, encInts s.pat.dbl, D.int IntKind.i64 s.next, (encIss zIss).slice (List.map encIss s.iss)])), (1, T.box [C.d (D.int IntKind.i64 s.rcd), C.d (D.int IntKind.i64 s.pat.start), C.d (D.int IntKind.i64 s.pat.every), C.d (D.int IntKind.i64 s.pat.per), C.d (D.int IntKind.i64 s.pat.first), C.d (encInts s.pat.skip), C.d (encInts s.pat.dbl), C.d (D.int IntKind.i64 s.next), C.d ((encIss zIss).slice (List.map encIss s.iss))]), (2, T.val (D.bool false)), (5, T.val (D.bool (!smallS s || !decide (serR s = (0 : Int))))), (9, T.val (D.agg [D.int IntKind.i64 s.rcd, D.int IntKind.i64 s.pat.start, D.int IntKind.i64 s.pat.every, D.int IntKind.i64 s.pat.per, D.int IntKind.i64 s.pat.first, encInts s.pat.skip, encInts s.pat.dbl, D.int IntKind.i64 s.next, (encIss zIss).slice (List.map encIss s.iss)]))] ?_ fun h_2 => ?_
      · skip
        refine coreS.step E_ok [0] (by kernel_rfl) (by simp) ?_
        refine anyS.cons rfl ?_ ?_
        · skip
          simp [encSer_eq, encIsss_eq, serR_1, serR_2]
          repeat refine ⟨by first | omega | assumption | (simp only [maxLen]; omega) | (intros; omega) | decide, ?_⟩
          exact contS.mk (by simp [Weak, TW, T.plain, encSer_eq, encIsss_eq, serR_1, serR_2]) h_0_2 (by kernel_rfl)
        exact anyS.nil
      refine contS.cut 16 #[false, false, false, false, false, false, false, false, false, false, false, false, false, false, false, false] [(0, T.val (D.agg [D.int IntKind.i64 s.rcd, D.int IntKind.i64 s.pat.start, D.int IntKind.i64 s.pat.every, D.int IntKind.i64 s.pat.per, D.int IntKind.i64 s.pat.first, encInts s.pat.skip, encInts s.pat.dbl, D.int IntKind.i64 s.next, (encIss zIss).slice (List.map encIss s.iss)])), (1, T.box [C.d (D.int IntKind.i64 s.rcd), C.d (D.int IntKind.i64 s.pat.start), C.d (D.int IntKind.i64 s.pat.every), C.d (D.int IntKind.i64 s.pat.per), C.d (D.int IntKind.i64 s.pat.first), C.d (encInts s.pat.skip), C.d (encInts s.pat.dbl), C.d (D.int IntKind.i64 s.next), C.d ((encIss zIss).slice (List.map encIss s.iss))]), (2, T.val (D.bool false)), (5, T.val (D.bool (!smallS s || !decide (serR s = (0 : Int)))))] ?_ fun h_ => ?_
      · skip
        refine coreS.step E_ok [0, 2] (by kernel_rfl) (by simp) ?_
        refine anyS.cons rfl ?_ ?_
        · skip
          simp [encSer_eq, encIsss_eq, serR_1, serR_2]
          repeat refine ⟨by first | omega | assumption | (simp only [maxLen]; omega) | (intros; omega) | decide, ?_⟩
          exact contS.mk (by simp [Weak, TW, T.plain, encSer_eq, encIsss_eq, serR_1, serR_2]) h_0 (by kernel_rfl)
        refine anyS.cons rfl ?_ ?_
        · skip
          simp [encSer_eq, encIsss_eq, serR_1, serR_2]
          repeat refine ⟨by first | omega | assumption | (simp only [maxLen]; omega) | (intros; omega) | decide, ?_⟩
          exact contS.mk (by simp [Weak, TW, T.plain, encSer_eq, encIsss_eq, serR_1, serR_2]) h_2 (by kernel_rfl)
        exact anyS.nil
      exact contS.mk (by simp [Weak, TW, T.plain, encSer_eq, encIsss_eq, serR_1, serR_2]) h_ (by kernel_rfl)
    refine hK _ ?_
    clear hK K
    refine AWp.ret ?_
    repeat first | refine thenN ?_ | refine thenX ?_ | refine thenR ?_ | refine blockN ?_ | refine blockR ?_ | refine blockX ?_ | refine blockM rfl ?_
    simp [RetOk, RV]
end Go.Proofs.Ytceapemkefaicaa
