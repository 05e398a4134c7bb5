/-
  What the functions compute that the statement reaches: contracts, and the plain laws between them. Conditions stand at each theorem.
-/
import Derived.Test.YtceapemkefaicaaMoreSerialClaimsOne
set_option linter.unusedVariables false
set_option linter.unusedSimpArgs false
set_option maxRecDepth 100000
set_option linter.unusedSimpArgs false
set_option linter.unusedVariables false
namespace Go.Proofs.Ytceapemkefaicaa
open Go Ab Pl
theorem ref37_with (s : Ser) (l : List Iss) (hl : l.length ≤ 1000000) : ACalls E.P 50 [encSer s, encIsss l] (.d (encSer ⟨s.rcd, s.pat, (l.length : Int), l⟩)) := by
  refine ACalls.intro E_ok Try.func50 rfl rfl Try.ntmps50 Try.results50 (Nat.le_of_ble_eq_true rfl) fun hok base S0 w0 => ?_
  -- region 0
  refine AWp.rseq E_ok [0, 1, 2, 4] fun K hK => ?_
  simp [encSer_eq, encIsss_eq]
  repeat refine ⟨by first | omega | assumption | (simp only [maxLen]; omega) | (intros; omega) | decide, ?_⟩
  refine hK _ ?_
  clear hK K
  -- region 1
  refine AWp.rseq E_ok [0, 1, 2, 4] fun K hK => ?_
  simp [encSer_eq, encIsss_eq]
  repeat refine ⟨by first | omega | assumption | (simp only [maxLen]; omega) | (intros; omega) | decide, ?_⟩
  refine hK _ ?_
  clear hK K
  refine AWp.ret ?_
  repeat first | refine thenN ?_ | refine thenX ?_ | refine thenR ?_ | refine blockN ?_ | refine blockR ?_ | refine blockX ?_ | refine blockM rfl ?_
  simp [RetOk, RV, encSer_eq, encIsss_eq]
end Go.Proofs.Ytceapemkefaicaa

set_option maxRecDepth 100000
set_option linter.unusedSimpArgs false
set_option linter.unusedVariables false
namespace Go.Proofs.Ytceapemkefaicaa
open Go Ab Pl
theorem ref37_Claim (s : Ser) (day wait : Int) (hl : s.iss.length ≤ 1000) (hd0 : ∀ x ∈ s.iss, (0 ≤ x.day ∧ x.day ≤ 200000) ∧ (x.st = 1 → x.item = 0)) (hnx : s.next = (s.iss.length : Int)) : ACalls E.P 29 [encSer s, .int .i64 day, .int .i64 wait] (.tup [encSer (claimR s day wait).1, encInts (claimR s day wait).2]) := by
  refine ACalls.intro E_ok Try.func29 rfl rfl Try.ntmps29 Try.results29 (Nat.le_of_ble_eq_true rfl) fun hok base S0 w0 => ?_
  -- region 0
  refine AWp.rseq E_ok [0, 1, 2, 3, 6, 7, 8, 9, 10, 11, 18, 35] fun K hK => ?_
  simp [encSer_eq, encIsss_eq, encIss_eq, encInts_eq, zIss]
  try simp (disch := omega) only [wrap_i64]
  repeat refine ⟨by first | omega | assumption | (simp only [maxLen]; omega) | (intros; omega) | decide, ?_⟩
  refine hK _ ?_
  clear hK K
  -- region 1
  refine AWp.rseq E_ok [0, 1, 2, 3, 6, 7, 8, 9, 10, 11, 18, 35] fun K hK => ?_
  simp [encSer_eq, encIsss_eq, encIss_eq, encInts_eq, zIss]
  try simp (disch := omega) only [wrap_i64]
  repeat refine ⟨by first | omega | assumption | (simp only [maxLen]; omega) | (intros; omega) | decide, ?_⟩
  refine hK _ ?_
  clear hK K
  -- region 2
  refine AWp.rseq E_ok [0, 1, 2, 3, 6, 7, 8, 9, 10, 11, 18, 35] fun K hK => ?_
  simp [encSer_eq, encIsss_eq, encIss_eq, encInts_eq, zIss]
  try simp (disch := omega) only [wrap_i64]
  repeat refine ⟨by first | omega | assumption | (simp only [maxLen]; omega) | (intros; omega) | decide, ?_⟩
  refine hK _ ?_
  clear hK K
  refine AWp.seq ?_
  -- region 3
  refine AWp.rseq E_ok [0, 1, 2, 3, 6, 7, 8, 9, 10, 11, 18, 35] fun K hK => ?_
  simp [encSer_eq, encIsss_eq, encIss_eq, encInts_eq, zIss]
  try simp (disch := omega) only [wrap_i64]
  repeat refine ⟨by first | omega | assumption | (simp only [maxLen]; omega) | (intros; omega) | decide, ?_⟩
  refine hK _ ?_
  clear hK K
  refine AWp.block ?_
  refine AWp.range (l := s.iss) (F := clmG day wait) (tot := clmG day wait (0, [], []) s.iss) (fun k y => match y with | (i, o, L) => i = (k : Int) ∧ o.length ≤ k ∧ L.length = k) (fun k y => match y with | (i, o, L) => [(0, T.val (D.agg [D.int IntKind.i64 s.rcd, D.int IntKind.i64 s.pat.start, D.int IntKind.i64 s.pat.every, D.int IntKind.i64 s.pat.per, D.int IntKind.i64 s.pat.first, (D.int IntKind.i64 0).slice (List.map (D.int IntKind.i64) s.pat.skip), (D.int IntKind.i64 0).slice (List.map (D.int IntKind.i64) s.pat.dbl), D.int IntKind.i64 s.next, (D.agg [D.int IntKind.i64 zIss.vol, D.int IntKind.i64 zIss.num, D.int IntKind.i64 zIss.last, D.int IntKind.i64 zIss.day, D.int IntKind.i64 zIss.st, D.int IntKind.i64 zIss.item]).slice (List.map encIss s.iss)])), (1, T.val (D.int IntKind.i64 day)), (2, T.val (D.int IntKind.i64 wait)), (3, T.box [C.d (D.int IntKind.i64 s.rcd), C.d (D.int IntKind.i64 s.pat.start), C.d (D.int IntKind.i64 s.pat.every), C.d (D.int IntKind.i64 s.pat.per), C.d (D.int IntKind.i64 s.pat.first), C.d ((D.int IntKind.i64 0).slice (List.map (D.int IntKind.i64) s.pat.skip)), C.d ((D.int IntKind.i64 0).slice (List.map (D.int IntKind.i64) s.pat.dbl)), C.d (D.int IntKind.i64 s.next), C.d ((D.agg [D.int IntKind.i64 zIss.vol, D.int IntKind.i64 zIss.num, D.int IntKind.i64 zIss.last, D.int IntKind.i64 zIss.day, D.int IntKind.i64 zIss.st, D.int IntKind.i64 zIss.item]).slice (List.map encIss s.iss))]), (6, T.box [C.d (D.int IntKind.i64 0), C.d (D.int IntKind.i64 0), C.d (D.int IntKind.i64 0), C.d (D.int IntKind.i64 0), C.d (D.int IntKind.i64 0), C.d ((D.int IntKind.i64 0).slice []), C.d ((D.int IntKind.i64 0).slice []), C.d (D.int IntKind.i64 0), C.d ((D.agg [D.int IntKind.i64 0, D.int IntKind.i64 0, D.int IntKind.i64 0, D.int IntKind.i64 0, D.int IntKind.i64 0, D.int IntKind.i64 0]).slice [])]), (8, T.own true (encIss zIss) (L.map encIss)), (9, T.own true (.int .i64 0) (o.map (D.int .i64))), (10, T.val (.int .i64 k))]) (0, [], []) ?_ rfl ?_ ?_
  · simp [Weak, TW, encSer_eq, encIsss_eq, encIss_eq, encInts_eq, zIss]
  · exact ⟨rfl, by simp, rfl⟩
  rintro k ⟨i, o, L⟩ hk hs hi
  try simp only at hi
  refine AWp.seq ?_
  -- region 4
  refine AWp.rseq E_ok [0, 1, 2, 3, 6, 7, 8, 9, 10, 11, 18, 35] fun K hK => ?_
  simp [encSer_eq, encIsss_eq, encIss_eq, encInts_eq, zIss]
  try simp (disch := omega) only [wrap_i64]
  repeat refine ⟨by first | omega | assumption | (simp only [maxLen]; omega) | (intros; omega) | decide, ?_⟩
  refine hK _ ?_
  clear hK K
  refine AWp.cond rfl (fun h18 => ?_) (fun h18 => ?_)
  · try simp at h18
    obtain ⟨x, hx, hxx, hd⟩ := at_indexG (l := s.iss) h18
    rw [hd] at hs
    have hxd := hd0 x (List.mem_of_getElem? hx)
    refine AWp.skip ?_
    repeat first | refine thenN ?_ | refine thenX ?_ | refine thenR ?_ | refine blockN ?_ | refine blockR ?_ | refine blockX ?_ | refine blockM rfl ?_
    refine AWp.seq ?_
    refine AWp.block ?_
    -- region 6
    refine AWp.rseq E_ok [0, 1, 2, 3, 6, 7, 8, 9, 10, 11, 18, 35] fun K hK => ?_
    simp [encSer_eq, encIsss_eq, encIss_eq, encInts_eq, zIss, h18, hx, hxx]
    try simp (disch := omega) only [wrap_i64]
    repeat refine ⟨by first | omega | assumption | (simp only [maxLen]; omega) | (intros; omega) | decide, ?_⟩
    refine hK _ ?_
    clear hK K
    refine AWp.seq ?_
    -- region 7
    refine AWp.rseq E_ok [0, 1, 2, 3, 6, 7, 8, 9, 10, 11, 18, 35] fun K hK => ?_
    simp [encSer_eq, encIsss_eq, encIss_eq, encInts_eq, zIss, h18, hx, hxx]
    try simp (disch := omega) only [wrap_i64]
    repeat refine ⟨by first | omega | assumption | (simp only [maxLen]; omega) | (intros; omega) | decide, ?_⟩
    refine meet.of (ref37_late x.day wait day hxd.1) ?_
    simp [encSer_eq, encIsss_eq, encIss_eq, encInts_eq, zIss, h18, hx, hxx]
    try simp (disch := omega) only [wrap_i64]
    repeat refine ⟨by first | omega | assumption | (simp only [maxLen]; omega) | (intros; omega) | decide, ?_⟩
    refine hK _ ?_
    clear hK K
    refine AWp.cond rfl (fun h35 => ?_) (fun h35 => ?_)
    · try simp at h35
      have hlt : Late day wait x := by unfold Late; omega
      have hx0 := hxd.2 hlt.1
      have hcl : clm day wait x = { x with st := 3 } := if_pos hlt
      rw [clmG, if_pos hlt, hcl] at hs
      -- region 8
      refine AWp.rseq E_ok [0, 1, 2, 3, 6, 7, 8, 9, 10, 11, 18, 35] fun K hK => ?_
      simp [encSer_eq, encIsss_eq, encIss_eq, encInts_eq, zIss, h18, hx, hxx, hx0]
      try simp (disch := omega) only [wrap_i64]
      repeat refine ⟨by first | omega | assumption | (simp only [maxLen]; omega) | (intros; omega) | decide, ?_⟩
      refine meet.of (ref37_changed { x with item := 0 } 3 0) ?_
      simp [encSer_eq, encIsss_eq, encIss_eq, encInts_eq, zIss, h18, hx, hxx, hx0]
      try simp (disch := omega) only [wrap_i64]
      repeat refine ⟨by first | omega | assumption | (simp only [maxLen]; omega) | (intros; omega) | decide, ?_⟩
      refine hK _ ?_
      clear hK K
      -- region 9
      refine AWp.rend E_ok [0, 1, 2, 3, 6, 7, 8, 9, 10, 11, 18, 35] fun K hK => ?_
      simp [encSer_eq, encIsss_eq, encIss_eq, encInts_eq, zIss, h18, hx, hxx, hx0]
      try simp (disch := omega) only [wrap_i64]
      repeat refine ⟨by first | omega | assumption | (simp only [maxLen]; omega) | (intros; omega) | decide, ?_⟩
      refine hK _ ?_
      clear hK K
      repeat first | refine thenN ?_ | refine thenX ?_ | refine thenR ?_ | refine blockN ?_ | refine blockR ?_ | refine blockX ?_ | refine blockM rfl ?_
      -- region 10
      refine AWp.rend E_ok [0, 1, 2, 3, 6, 7, 8, 9, 10, 11, 18, 35] fun K hK => ?_
      simp [encSer_eq, encIsss_eq, encIss_eq, encInts_eq, zIss, h18, hx, hxx, hx0]
      try simp (disch := omega) only [wrap_i64]
      repeat refine ⟨by first | omega | assumption | (simp only [maxLen]; omega) | (intros; omega) | decide, ?_⟩
      refine hK _ ?_
      clear hK K
      repeat first | refine thenN ?_ | refine thenX ?_ | refine thenR ?_ | refine blockN ?_ | refine blockR ?_ | refine blockX ?_ | refine blockM rfl ?_
      -- region 5
      refine AWp.rend E_ok [0, 1, 2, 3, 6, 7, 8, 9, 10, 11, 18, 35] fun K hK => ?_
      simp [encSer_eq, encIsss_eq, encIss_eq, encInts_eq, zIss, h18, hx, hxx, hx0]
      try simp (disch := omega) only [wrap_i64]
      repeat refine ⟨by first | omega | assumption | (simp only [maxLen]; omega) | (intros; omega) | decide, ?_⟩
      refine hK _ ?_
      clear hK K
      repeat first | refine thenN ?_ | refine thenX ?_ | refine thenR ?_ | refine blockN ?_ | refine blockR ?_ | refine blockX ?_ | refine blockM rfl ?_
      have hw : IntKind.i64.wrap ((k : Int) + 1) = (k : Int) + 1 := by rw [wrap_i64] <;> omega
      skip
      refine ⟨_, h18, hs, ?_, ?_⟩
      · exact ⟨by omega, by (try simp only [List.length_append, List.length_singleton]); omega, by simp only [List.length_append, List.length_singleton]; omega⟩
      · simp [Weak, TW, hw, encSer_eq, encIsss_eq, encIss_eq, encInts_eq, zIss] <;> omega
    · try simp at h35
      have hlt : ¬ Late day wait x := fun hh => by unfold Late at hh; have := h35 hh.1; omega
      have hcl : clm day wait x = x := if_neg hlt
      rw [clmG, if_neg hlt, hcl] at hs
      refine AWp.skip ?_
      repeat first | refine thenN ?_ | refine thenX ?_ | refine thenR ?_ | refine blockN ?_ | refine blockR ?_ | refine blockX ?_ | refine blockM rfl ?_
      -- region 10
      refine AWp.rend E_ok [0, 1, 2, 3, 6, 7, 8, 9, 10, 11, 18, 35] fun K hK => ?_
      simp [encSer_eq, encIsss_eq, encIss_eq, encInts_eq, zIss, h18, hx, hxx]
      try simp (disch := omega) only [wrap_i64]
      repeat refine ⟨by first | omega | assumption | (simp only [maxLen]; omega) | (intros; omega) | decide, ?_⟩
      refine hK _ ?_
      clear hK K
      repeat first | refine thenN ?_ | refine thenX ?_ | refine thenR ?_ | refine blockN ?_ | refine blockR ?_ | refine blockX ?_ | refine blockM rfl ?_
      -- region 5
      refine AWp.rend E_ok [0, 1, 2, 3, 6, 7, 8, 9, 10, 11, 18, 35] fun K hK => ?_
      simp [encSer_eq, encIsss_eq, encIss_eq, encInts_eq, zIss, h18, hx, hxx]
      try simp (disch := omega) only [wrap_i64]
      repeat refine ⟨by first | omega | assumption | (simp only [maxLen]; omega) | (intros; omega) | decide, ?_⟩
      refine hK _ ?_
      clear hK K
      repeat first | refine thenN ?_ | refine thenX ?_ | refine thenR ?_ | refine blockN ?_ | refine blockR ?_ | refine blockX ?_ | refine blockM rfl ?_
      have hw : IntKind.i64.wrap ((k : Int) + 1) = (k : Int) + 1 := by rw [wrap_i64] <;> omega
      skip
      refine ⟨_, h18, hs, ?_, ?_⟩
      · exact ⟨by omega, by (try simp only [List.length_append, List.length_singleton]); omega, by simp only [List.length_append, List.length_singleton]; omega⟩
      · simp [Weak, TW, hw, encSer_eq, encIsss_eq, encIss_eq, encInts_eq, zIss] <;> omega
  · try simp at h18
    obtain rfl : k = s.iss.length := by omega
    simp [clmG] at hs
    rw [clmG_eq, Prod.mk.injEq] at hs
    obtain ⟨hs1, hs2⟩ := hs
    refine AWp.exit ?_
    repeat first | refine thenN ?_ | refine thenX ?_ | refine thenR ?_ | refine blockN ?_ | refine blockR ?_ | refine blockX ?_ | refine blockM rfl ?_
    -- region 11
    refine AWp.rseq E_ok [0, 1, 2, 3, 6, 7, 8, 9, 10, 11, 18, 35] fun K hK => ?_
    simp [encSer_eq, encIsss_eq, encIss_eq, encInts_eq, zIss, h18]
    try simp (disch := omega) only [wrap_i64]
    repeat refine ⟨by first | omega | assumption | (simp only [maxLen]; omega) | (intros; omega) | decide, ?_⟩
    refine meet.of (ref37_with s L (by omega)) ?_
    simp [encSer_eq, encIsss_eq, encIss_eq, encInts_eq, zIss, h18]
    try simp (disch := omega) only [wrap_i64]
    repeat refine ⟨by first | omega | assumption | (simp only [maxLen]; omega) | (intros; omega) | decide, ?_⟩
    refine hK _ ?_
    clear hK K
    refine AWp.ret ?_
    repeat first | refine thenN ?_ | refine thenX ?_ | refine thenR ?_ | refine blockN ?_ | refine blockR ?_ | refine blockX ?_ | refine blockM rfl ?_
    simp [RetOk, RV, RVs, claimR, encSer_eq, encIsss_eq, encIss_eq, encInts_eq, zIss, hs1, hs2, hnx]
end Go.Proofs.Ytceapemkefaicaa

set_option maxRecDepth 100000
set_option linter.unusedSimpArgs false
set_option linter.unusedVariables false
namespace Go.Proofs.Ytceapemkefaicaa
open Go Ab Pl
theorem ref36_Same (a b : List Iss) (hl : a.length ≤ 100000) : ACalls E.P 41 [encIsss a, encIsss b] (.d (.bool (decide (a = b)))) := by
  refine ACalls.intro E_ok Try.func41 rfl rfl Try.ntmps41 Try.results41 (Nat.le_of_ble_eq_true rfl) fun hok base S0 w0 => ?_
  -- region 0
  refine AWp.rseq E_ok [0, 1, 4, 5, 10, 14, 25] fun K hK => ?_
  simp [encIsss_eq, encIss_eq]
  repeat refine ⟨by first | omega | assumption | (simp only [maxLen]; omega) | (intros; omega) | decide, ?_⟩
  refine hK _ ?_
  clear hK K
  refine AWp.seq ?_
  -- region 1
  refine AWp.rseq E_ok [0, 1, 4, 5, 10, 14, 25] fun K hK => ?_
  simp [encIsss_eq, encIss_eq]
  repeat refine ⟨by first | omega | assumption | (simp only [maxLen]; omega) | (intros; omega) | decide, ?_⟩
  refine hK _ ?_
  clear hK K
  refine AWp.cond rfl (fun h10 => ?_) (fun h10 => ?_)
  · try simp at h10
    have hb : decide (a = b) = false := decide_eq_false fun h => h10 (by rw [h])
    -- region 2
    refine AWp.rseq E_ok [0, 1, 4, 5, 10, 14, 25] fun K hK => ?_
    simp [encIsss_eq, encIss_eq]
    repeat refine ⟨by first | omega | assumption | (simp only [maxLen]; omega) | (intros; omega) | decide, ?_⟩
    refine hK _ ?_
    clear hK K
    refine AWp.ret ?_
    repeat first | refine thenN ?_ | refine thenX ?_ | refine thenR ?_ | refine blockN ?_ | refine blockR ?_ | refine blockX ?_ | refine blockM rfl ?_
    simp [RetOk, RV, hb]
  · try simp at h10
    have hle := samF_eq a b (by omega)
    refine AWp.skip ?_
    repeat first | refine thenN ?_ | refine thenX ?_ | refine thenR ?_ | refine blockN ?_ | refine blockR ?_ | refine blockX ?_ | refine blockM rfl ?_
    refine AWp.seq ?_
    -- region 3
    refine AWp.rseq E_ok [0, 1, 4, 5, 10, 14, 25] fun K hK => ?_
    simp [encIsss_eq, encIss_eq]
    repeat refine ⟨by first | omega | assumption | (simp only [maxLen]; omega) | (intros; omega) | decide, ?_⟩
    refine hK _ ?_
    clear hK K
    refine AWp.block ?_
    refine AWp.range (l := a) (F := samF) (tot := samF b a) (fun k y => match y with | bs => bs = b.drop k) (fun k y => match y with | bs => [(0, T.val ((D.agg [D.int IntKind.i64 zIss.vol, D.int IntKind.i64 zIss.num, D.int IntKind.i64 zIss.last, D.int IntKind.i64 zIss.day, D.int IntKind.i64 zIss.st, D.int IntKind.i64 zIss.item]).slice (List.map encIss a))), (1, T.val ((D.agg [D.int IntKind.i64 zIss.vol, D.int IntKind.i64 zIss.num, D.int IntKind.i64 zIss.last, D.int IntKind.i64 zIss.day, D.int IntKind.i64 zIss.st, D.int IntKind.i64 zIss.item]).slice (List.map encIss b))), (5, T.val (.int .i64 k))]) (b) ?_ rfl ?_ ?_
    · simp [Weak, TW, encIsss_eq, encIss_eq]
    · first | exact trivial | (simp; omega) | simp
    rintro k bs hk hs hi
    try simp only at hi
    refine AWp.seq ?_
    -- region 4
    refine AWp.rseq E_ok [0, 1, 4, 5, 10, 14, 25] fun K hK => ?_
    simp [encIsss_eq, encIss_eq]
    repeat refine ⟨by first | omega | assumption | (simp only [maxLen]; omega) | (intros; omega) | decide, ?_⟩
    refine hK _ ?_
    clear hK K
    refine AWp.cond rfl (fun h14 => ?_) (fun h14 => ?_)
    · try simp at h14
      obtain ⟨y, hy1, hy2, hyd⟩ := at_indexG (l := b) (k := k) (by omega)
      rw [hi, hyd] at hs
      obtain ⟨x, hx, hxx, hd⟩ := at_indexG (l := a) h14
      rw [hd] at hs
      refine AWp.skip ?_
      repeat first | refine thenN ?_ | refine thenX ?_ | refine thenR ?_ | refine blockN ?_ | refine blockR ?_ | refine blockX ?_ | refine blockM rfl ?_
      refine AWp.seq ?_
      refine AWp.block ?_
      -- region 6
      refine AWp.rseqQ E_ok mixed [0, 1, 4, 5, 10, 14, 25] (by kernel_rfl) fun K hK => ?_
      simp [encIsss_eq, encIss_eq, h14, hy1, hx, hxx]
      repeat refine ⟨by first | omega | assumption | (simp only [maxLen]; omega) | (intros; omega) | decide, ?_⟩
      refine hK _ ?_
      clear hK K
      refine AWp.cond rfl (fun h25 => ?_) (fun h25 => ?_)
      · try simp at h25
        have hne : ¬ x = y := by rw [iss_eq]; omega
        rw [samF, if_neg hne] at hs
        have hb : decide (a = b) = false := by rw [← hle, ← hs]
        -- region 7
        refine AWp.rseq E_ok [0, 1, 4, 5, 10, 14, 25] fun K hK => ?_
        simp [encIsss_eq, encIss_eq, h14, hy1, hx, hxx]
        repeat refine ⟨by first | omega | assumption | (simp only [maxLen]; omega) | (intros; omega) | decide, ?_⟩
        refine hK _ ?_
        clear hK K
        refine AWp.ret ?_
        repeat first | refine thenN ?_ | refine thenX ?_ | refine thenR ?_ | refine blockN ?_ | refine blockR ?_ | refine blockX ?_ | refine blockM rfl ?_
        simp [RetOk, RV, hb]
      · try simp at h25
        have hxy : x = y := (iss_eq x y).2 (by omega)
        rw [samF, if_pos hxy] at hs
        refine AWp.skip ?_
        repeat first | refine thenN ?_ | refine thenX ?_ | refine thenR ?_ | refine blockN ?_ | refine blockR ?_ | refine blockX ?_ | refine blockM rfl ?_
        -- region 5
        refine AWp.rend E_ok [0, 1, 4, 5, 10, 14, 25] fun K hK => ?_
        simp [encIsss_eq, encIss_eq, h14, hy1, hx, hxx]
        repeat refine ⟨by first | omega | assumption | (simp only [maxLen]; omega) | (intros; omega) | decide, ?_⟩
        refine hK _ ?_
        clear hK K
        repeat first | refine thenN ?_ | refine thenX ?_ | refine thenR ?_ | refine blockN ?_ | refine blockR ?_ | refine blockX ?_ | refine blockM rfl ?_
        have hw : IntKind.i64.wrap ((k : Int) + 1) = (k : Int) + 1 := by rw [wrap_i64] <;> omega
        skip
        refine ⟨_, h14, hs, ?_, ?_⟩
        · first | exact trivial | (simp; omega) | simp
        · simp [Weak, TW, hw, encIsss_eq, encIss_eq]
    · try simp at h14
      obtain rfl : k = a.length := by omega
      simp [samF] at hs
      have hb : decide (a = b) = true := by rw [← hle]; simp [hs]
      refine AWp.exit ?_
      repeat first | refine thenN ?_ | refine thenX ?_ | refine thenR ?_ | refine blockN ?_ | refine blockR ?_ | refine blockX ?_ | refine blockM rfl ?_
      -- region 8
      refine AWp.rseq E_ok [0, 1, 4, 5, 10, 14, 25] fun K hK => ?_
      simp [encIsss_eq, encIss_eq, h14]
      repeat refine ⟨by first | omega | assumption | (simp only [maxLen]; omega) | (intros; omega) | decide, ?_⟩
      refine hK _ ?_
      clear hK K
      refine AWp.ret ?_
      repeat first | refine thenN ?_ | refine thenX ?_ | refine thenR ?_ | refine blockN ?_ | refine blockR ?_ | refine blockX ?_ | refine blockM rfl ?_
      simp [RetOk, RV, hb]
end Go.Proofs.Ytceapemkefaicaa

/- Lists of integers compared. -/
namespace Pl
open Go Ab
set_option linter.unusedVariables false
set_option linter.unusedSimpArgs false
def samZ : List Int → List Int → Bool
  | _, [] => true
  | [], _ :: _ => false
  | y :: b, x :: a => if x = y then samZ b a else false
theorem samZ_eq : ∀ (a b : List Int), a.length = b.length → samZ b a = decide (a = b)
  | [], [], _ => by simp [samZ]
  | x :: a, y :: b, h => by
    rw [samZ, samZ_eq a b (by simpa using h)]
    by_cases hxy : x = y
    · subst hxy; simp
    · simp [hxy]
end Pl

set_option maxRecDepth 100000
set_option linter.unusedSimpArgs false
set_option linter.unusedVariables false
namespace Go.Proofs.Ytceapemkefaicaa
open Go Ab Pl
theorem ref37_same (a b : List Int) (hl : a.length ≤ 100000) : ACalls E.P 70 [encInts a, encInts b] (.d (.bool (decide (a = b)))) := by
  refine ACalls.intro E_ok Try.func70 rfl rfl Try.ntmps70 Try.results70 (Nat.le_of_ble_eq_true rfl) fun hok base S0 w0 => ?_
  -- region 0
  refine AWp.rseq E_ok [0, 1, 4, 5, 10, 14, 25] fun K hK => ?_
  simp [encInts_eq]
  repeat refine ⟨by first | omega | assumption | (simp only [maxLen]; omega) | (intros; omega) | decide, ?_⟩
  refine hK _ ?_
  clear hK K
  refine AWp.seq ?_
  -- region 1
  refine AWp.rseq E_ok [0, 1, 4, 5, 10, 14, 25] fun K hK => ?_
  simp [encInts_eq]
  repeat refine ⟨by first | omega | assumption | (simp only [maxLen]; omega) | (intros; omega) | decide, ?_⟩
  refine hK _ ?_
  clear hK K
  refine AWp.cond rfl (fun h10 => ?_) (fun h10 => ?_)
  · try simp at h10
    have hb : decide (a = b) = false := decide_eq_false fun h => h10 (by rw [h])
    -- region 2
    refine AWp.rseq E_ok [0, 1, 4, 5, 10, 14, 25] fun K hK => ?_
    simp [encInts_eq]
    repeat refine ⟨by first | omega | assumption | (simp only [maxLen]; omega) | (intros; omega) | decide, ?_⟩
    refine hK _ ?_
    clear hK K
    refine AWp.ret ?_
    repeat first | refine thenN ?_ | refine thenX ?_ | refine thenR ?_ | refine blockN ?_ | refine blockR ?_ | refine blockX ?_ | refine blockM rfl ?_
    simp [RetOk, RV, hb]
  · try simp at h10
    have hle := samZ_eq a b (by omega)
    refine AWp.skip ?_
    repeat first | refine thenN ?_ | refine thenX ?_ | refine thenR ?_ | refine blockN ?_ | refine blockR ?_ | refine blockX ?_ | refine blockM rfl ?_
    refine AWp.seq ?_
    -- region 3
    refine AWp.rseq E_ok [0, 1, 4, 5, 10, 14, 25] fun K hK => ?_
    simp [encInts_eq]
    repeat refine ⟨by first | omega | assumption | (simp only [maxLen]; omega) | (intros; omega) | decide, ?_⟩
    refine hK _ ?_
    clear hK K
    refine AWp.block ?_
    refine AWp.range (l := a) (F := samZ) (tot := samZ b a) (fun k y => match y with | bs => bs = b.drop k) (fun k y => match y with | bs => [(0, T.val ((D.int IntKind.i64 0).slice (List.map (D.int IntKind.i64) a))), (1, T.val ((D.int IntKind.i64 0).slice (List.map (D.int IntKind.i64) b))), (5, T.val (.int .i64 k))]) (b) ?_ rfl ?_ ?_
    · simp [Weak, TW, encInts_eq]
    · first | exact trivial | (simp; omega) | simp
    rintro k bs hk hs hi
    try simp only at hi
    refine AWp.seq ?_
    -- region 4
    refine AWp.rseq E_ok [0, 1, 4, 5, 10, 14, 25] fun K hK => ?_
    simp [encInts_eq]
    repeat refine ⟨by first | omega | assumption | (simp only [maxLen]; omega) | (intros; omega) | decide, ?_⟩
    refine hK _ ?_
    clear hK K
    refine AWp.cond rfl (fun h14 => ?_) (fun h14 => ?_)
    · try simp at h14
      obtain ⟨y, hy1, hy2, hyd⟩ := at_indexG (l := b) (k := k) (by omega)
      rw [hi, hyd] at hs
      obtain ⟨x, hx, hxx, hd⟩ := at_indexG (l := a) h14
      rw [hd] at hs
      refine AWp.skip ?_
      repeat first | refine thenN ?_ | refine thenX ?_ | refine thenR ?_ | refine blockN ?_ | refine blockR ?_ | refine blockX ?_ | refine blockM rfl ?_
      refine AWp.seq ?_
      refine AWp.block ?_
      -- region 6
      refine AWp.rseqQ E_ok mixed [0, 1, 4, 5, 10, 14, 25] (by kernel_rfl) fun K hK => ?_
      simp [encInts_eq, h14, hy1, hx, hxx]
      repeat refine ⟨by first | omega | assumption | (simp only [maxLen]; omega) | (intros; omega) | decide, ?_⟩
      refine hK _ ?_
      clear hK K
      refine AWp.cond rfl (fun h25 => ?_) (fun h25 => ?_)
      · try simp at h25
        rw [samZ, if_neg h25] at hs
        have hb : decide (a = b) = false := by rw [← hle, ← hs]
        -- region 7
        refine AWp.rseq E_ok [0, 1, 4, 5, 10, 14, 25] fun K hK => ?_
        simp [encInts_eq, h14, hy1, hx, hxx]
        repeat refine ⟨by first | omega | assumption | (simp only [maxLen]; omega) | (intros; omega) | decide, ?_⟩
        refine hK _ ?_
        clear hK K
        refine AWp.ret ?_
        repeat first | refine thenN ?_ | refine thenX ?_ | refine thenR ?_ | refine blockN ?_ | refine blockR ?_ | refine blockX ?_ | refine blockM rfl ?_
        simp [RetOk, RV, hb]
      · try simp at h25
        rw [samZ, if_pos h25] at hs
        refine AWp.skip ?_
        repeat first | refine thenN ?_ | refine thenX ?_ | refine thenR ?_ | refine blockN ?_ | refine blockR ?_ | refine blockX ?_ | refine blockM rfl ?_
        -- region 5
        refine AWp.rend E_ok [0, 1, 4, 5, 10, 14, 25] fun K hK => ?_
        simp [encInts_eq, h14, hy1, hx, hxx]
        repeat refine ⟨by first | omega | assumption | (simp only [maxLen]; omega) | (intros; omega) | decide, ?_⟩
        refine hK _ ?_
        clear hK K
        repeat first | refine thenN ?_ | refine thenX ?_ | refine thenR ?_ | refine blockN ?_ | refine blockR ?_ | refine blockX ?_ | refine blockM rfl ?_
        have hw : IntKind.i64.wrap ((k : Int) + 1) = (k : Int) + 1 := by rw [wrap_i64] <;> omega
        skip
        refine ⟨_, h14, hs, ?_, ?_⟩
        · first | exact trivial | (simp; omega) | simp
        · simp [Weak, TW, hw, encInts_eq]
    · try simp at h14
      obtain rfl : k = a.length := by omega
      simp [samZ] at hs
      have hb : decide (a = b) = true := by rw [← hle]; simp [hs]
      refine AWp.exit ?_
      repeat first | refine thenN ?_ | refine thenX ?_ | refine thenR ?_ | refine blockN ?_ | refine blockR ?_ | refine blockX ?_ | refine blockM rfl ?_
      -- region 8
      refine AWp.rseq E_ok [0, 1, 4, 5, 10, 14, 25] fun K hK => ?_
      simp [encInts_eq, h14]
      repeat refine ⟨by first | omega | assumption | (simp only [maxLen]; omega) | (intros; omega) | decide, ?_⟩
      refine hK _ ?_
      clear hK K
      refine AWp.ret ?_
      repeat first | refine thenN ?_ | refine thenX ?_ | refine thenR ?_ | refine blockN ?_ | refine blockR ?_ | refine blockX ?_ | refine blockM rfl ?_
      simp [RetOk, RV, hb]
end Go.Proofs.Ytceapemkefaicaa

set_option maxRecDepth 100000
set_option linter.unusedSimpArgs false
set_option linter.unusedVariables false
namespace Go.Proofs.Ytceapemkefaicaa
open Go Ab Pl
theorem ref37_SamePattern (a b : Pat) (h1 : a.skip.length ≤ 100000) (h2 : a.dbl.length ≤ 100000) : ACalls E.P 47 [encPat a, encPat b] (.d (.bool (decide (a = b)))) := by
  refine ACalls.intro E_ok Try.func47 rfl rfl Try.ntmps47 Try.results47 (Nat.le_of_ble_eq_true rfl) fun hok base S0 w0 => ?_
  -- region 0
  refine AWp.rseq E_ok [0, 1, 2, 3, 4] fun K hK => ?_
  simp [encPat_eq]
  repeat refine ⟨by first | omega | assumption | (simp only [maxLen]; omega) | (intros; omega) | decide, ?_⟩
  refine hK _ ?_
  clear hK K
  -- region 1
  refine AWp.rseq E_ok [0, 1, 2, 3, 4] fun K hK => ?_
  simp [encPat_eq]
  repeat refine ⟨by first | omega | assumption | (simp only [maxLen]; omega) | (intros; omega) | decide, ?_⟩
  refine meet.of (ref37_same a.skip b.skip (by omega)) ?_
  simp [encPat_eq]
  repeat refine ⟨by first | omega | assumption | (simp only [maxLen]; omega) | (intros; omega) | decide, ?_⟩
  refine meet.of (ref37_same a.dbl b.dbl (by omega)) ?_
  simp [encPat_eq]
  repeat refine ⟨by first | omega | assumption | (simp only [maxLen]; omega) | (intros; omega) | decide, ?_⟩
  refine hK _ ?_
  clear hK K
  refine AWp.ret ?_
  repeat first | refine thenN ?_ | refine thenX ?_ | refine thenR ?_ | refine blockN ?_ | refine blockR ?_ | refine blockX ?_ | refine blockM rfl ?_
  simp [RetOk, RV]; rw [Bool.eq_iff_iff]; simp [pat_eq, and_assoc]
end Go.Proofs.Ytceapemkefaicaa

set_option maxRecDepth 100000
set_option linter.unusedSimpArgs false
set_option linter.unusedVariables false
namespace Go.Proofs.Ytceapemkefaicaa
open Go Ab Pl
theorem ref37_Same (a b : Ser) (h1 : a.pat.skip.length ≤ 100000) (h2 : a.pat.dbl.length ≤ 100000) (h3 : a.iss.length ≤ 100000) : ACalls E.P 20 [encSer a, encSer b] (.d (.bool (decide (a = b)))) := by
  refine ACalls.intro E_ok Try.func20 rfl rfl Try.ntmps20 Try.results20 (Nat.le_of_ble_eq_true rfl) fun hok base S0 w0 => ?_
  -- region 0
  refine AWp.rseq E_ok [0, 1, 2, 3, 4] fun K hK => ?_
  simp [encSer_eq, encIsss_eq]
  repeat refine ⟨by first | omega | assumption | (simp only [maxLen]; omega) | (intros; omega) | decide, ?_⟩
  refine hK _ ?_
  clear hK K
  -- region 1
  refine AWp.rseq E_ok [0, 1, 2, 3, 4] fun K hK => ?_
  simp [encSer_eq, encIsss_eq]
  repeat refine ⟨by first | omega | assumption | (simp only [maxLen]; omega) | (intros; omega) | decide, ?_⟩
  refine meet.of (ref36_Same a.iss b.iss (by omega)) ?_
  simp [encSer_eq, encIsss_eq]
  repeat refine ⟨by first | omega | assumption | (simp only [maxLen]; omega) | (intros; omega) | decide, ?_⟩
  refine meet.of (ref37_SamePattern a.pat b.pat (by omega) (by omega)) ?_
  simp [encSer_eq, encIsss_eq]
  repeat refine ⟨by first | omega | assumption | (simp only [maxLen]; omega) | (intros; omega) | decide, ?_⟩
  refine hK _ ?_
  clear hK K
  refine AWp.ret ?_
  repeat first | refine thenN ?_ | refine thenX ?_ | refine thenR ?_ | refine blockN ?_ | refine blockR ?_ | refine blockX ?_ | refine blockM rfl ?_
  simp [RetOk, RV]; rw [Bool.eq_iff_iff]; simp [ser_eq]
end Go.Proofs.Ytceapemkefaicaa

set_option maxRecDepth 100000
set_option linter.unusedSimpArgs false
set_option linter.unusedVariables false
namespace Go.Proofs.Ytceapemkefaicaa
open Go Ab Pl
theorem law37_same (a b : List Int) (hl : a.length ≤ 100000) : ACalls E.P 30 [encInts a, encInts b] (.d (.bool (decide (a = b)))) := by
  refine ACalls.intro E_ok Try.func30 rfl rfl Try.ntmps30 Try.results30 (Nat.le_of_ble_eq_true rfl) fun hok base S0 w0 => ?_
  -- region 0
  refine AWp.rseq E_ok [0, 1, 4, 5, 10, 12, 13, 14, 24] fun K hK => ?_
  simp [encInts_eq]
  repeat refine ⟨by first | omega | assumption | (simp only [maxLen]; omega) | (intros; omega) | decide, ?_⟩
  refine hK _ ?_
  clear hK K
  refine AWp.seq ?_
  -- region 1
  refine AWp.rseq E_ok [0, 1, 4, 5, 10, 12, 13, 14, 24] fun K hK => ?_
  simp [encInts_eq]
  repeat refine ⟨by first | omega | assumption | (simp only [maxLen]; omega) | (intros; omega) | decide, ?_⟩
  refine hK _ ?_
  clear hK K
  refine AWp.cond rfl (fun h10 => ?_) (fun h10 => ?_)
  · try simp at h10
    have hb : decide (a = b) = false := decide_eq_false fun h => h10 (by rw [h])
    -- region 2
    refine AWp.rseq E_ok [0, 1, 4, 5, 10, 12, 13, 14, 24] fun K hK => ?_
    simp [encInts_eq]
    repeat refine ⟨by first | omega | assumption | (simp only [maxLen]; omega) | (intros; omega) | decide, ?_⟩
    refine hK _ ?_
    clear hK K
    refine AWp.ret ?_
    repeat first | refine thenN ?_ | refine thenX ?_ | refine thenR ?_ | refine blockN ?_ | refine blockR ?_ | refine blockX ?_ | refine blockM rfl ?_
    simp [RetOk, RV, hb]
  · try simp at h10
    have hle := samZ_eq a b (by omega)
    refine AWp.skip ?_
    repeat first | refine thenN ?_ | refine thenX ?_ | refine thenR ?_ | refine blockN ?_ | refine blockR ?_ | refine blockX ?_ | refine blockM rfl ?_
    refine AWp.seq ?_
    -- region 3
    refine AWp.rseq E_ok [0, 1, 4, 5, 10, 12, 13, 14, 24] fun K hK => ?_
    simp [encInts_eq]
    repeat refine ⟨by first | omega | assumption | (simp only [maxLen]; omega) | (intros; omega) | decide, ?_⟩
    refine hK _ ?_
    clear hK K
    refine AWp.block ?_
    refine AWp.range (l := a) (F := samZ) (tot := samZ b a) (fun k y => match y with | bs => bs = b.drop k) (fun k y => match y with | bs => [(0, T.val ((D.int IntKind.i64 0).slice (List.map (D.int IntKind.i64) a))), (1, T.val ((D.int IntKind.i64 0).slice (List.map (D.int IntKind.i64) b))), (12, T.val (D.int IntKind.i64 ↑a.length)), (13, T.val (.int .i64 k))]) (b) ?_ rfl ?_ ?_
    · simp [Weak, TW, encInts_eq]
    · first | exact trivial | (simp; omega) | simp
    rintro k bs hk hs hi
    try simp only at hi
    -- region 4
    refine AWp.rseq E_ok [0, 1, 4, 5, 10, 12, 13, 14, 24] fun K hK => ?_
    simp [encInts_eq]
    repeat refine ⟨by first | omega | assumption | (simp only [maxLen]; omega) | (intros; omega) | decide, ?_⟩
    refine hK _ ?_
    clear hK K
    refine AWp.seq ?_
    refine AWp.cond rfl (fun h14 => ?_) (fun h14 => ?_)
    · try simp at h14
      obtain ⟨y, hy1, hy2, hyd⟩ := at_indexG (l := b) (k := k) (by omega)
      rw [hi, hyd] at hs
      obtain ⟨x, hx, hxx, hd⟩ := at_indexG (l := a) h14
      rw [hd] at hs
      refine AWp.skip ?_
      repeat first | refine thenN ?_ | refine thenX ?_ | refine thenR ?_ | refine blockN ?_ | refine blockR ?_ | refine blockX ?_ | refine blockM rfl ?_
      refine AWp.seq ?_
      refine AWp.block ?_
      -- region 5
      refine AWp.rseq E_ok [0, 1, 4, 5, 10, 12, 13, 14, 24] fun K hK => ?_
      simp [encInts_eq, h14, hy1, hx, hxx]
      repeat refine ⟨by first | omega | assumption | (simp only [maxLen]; omega) | (intros; omega) | decide, ?_⟩
      refine hK _ ?_
      clear hK K
      -- region 6
      refine AWp.rseqQ E_ok mixed [0, 1, 4, 5, 10, 12, 13, 14, 24] (by kernel_rfl) fun K hK => ?_
      simp [encInts_eq, h14, hy1, hx, hxx]
      repeat refine ⟨by first | omega | assumption | (simp only [maxLen]; omega) | (intros; omega) | decide, ?_⟩
      refine hK _ ?_
      clear hK K
      refine AWp.cond rfl (fun h24 => ?_) (fun h24 => ?_)
      · try simp at h24
        rw [samZ, if_neg h24] at hs
        have hb : decide (a = b) = false := by rw [← hle, ← hs]
        -- region 7
        refine AWp.rseq E_ok [0, 1, 4, 5, 10, 12, 13, 14, 24] fun K hK => ?_
        simp [encInts_eq, h14, hy1, hx, hxx]
        repeat refine ⟨by first | omega | assumption | (simp only [maxLen]; omega) | (intros; omega) | decide, ?_⟩
        refine hK _ ?_
        clear hK K
        refine AWp.ret ?_
        repeat first | refine thenN ?_ | refine thenX ?_ | refine thenR ?_ | refine blockN ?_ | refine blockR ?_ | refine blockX ?_ | refine blockM rfl ?_
        simp [RetOk, RV, hb]
      · try simp at h24
        rw [samZ, if_pos h24] at hs
        refine AWp.skip ?_
        repeat first | refine thenN ?_ | refine thenX ?_ | refine thenR ?_ | refine blockN ?_ | refine blockR ?_ | refine blockX ?_ | refine blockM rfl ?_
        -- region 8
        refine AWp.rend E_ok [0, 1, 4, 5, 10, 12, 13, 14, 24] fun K hK => ?_
        simp [encInts_eq, h14, hy1, hx, hxx]
        repeat refine ⟨by first | omega | assumption | (simp only [maxLen]; omega) | (intros; omega) | decide, ?_⟩
        refine hK _ ?_
        clear hK K
        repeat first | refine thenN ?_ | refine thenX ?_ | refine thenR ?_ | refine blockN ?_ | refine blockR ?_ | refine blockX ?_ | refine blockM rfl ?_
        have hw : IntKind.i64.wrap ((k : Int) + 1) = (k : Int) + 1 := by rw [wrap_i64] <;> omega
        skip
        refine ⟨_, h14, hs, ?_, ?_⟩
        · first | exact trivial | (simp; omega) | simp
        · simp [Weak, TW, hw, encInts_eq]
    · try simp at h14
      obtain rfl : k = a.length := by omega
      simp [samZ] at hs
      have hb : decide (a = b) = true := by rw [← hle]; simp [hs]
      refine AWp.exit ?_
      repeat first | refine thenN ?_ | refine thenX ?_ | refine thenR ?_ | refine blockN ?_ | refine blockR ?_ | refine blockX ?_ | refine blockM rfl ?_
      -- region 9
      refine AWp.rseq E_ok [0, 1, 4, 5, 10, 12, 13, 14, 24] fun K hK => ?_
      simp [encInts_eq, h14]
      repeat refine ⟨by first | omega | assumption | (simp only [maxLen]; omega) | (intros; omega) | decide, ?_⟩
      refine hK _ ?_
      clear hK K
      refine AWp.ret ?_
      repeat first | refine thenN ?_ | refine thenX ?_ | refine thenR ?_ | refine blockN ?_ | refine blockR ?_ | refine blockX ?_ | refine blockM rfl ?_
      simp [RetOk, RV, hb]
end Go.Proofs.Ytceapemkefaicaa

set_option maxRecDepth 100000
set_option linter.unusedSimpArgs false
set_option linter.unusedVariables false
namespace Go.Proofs.Ytceapemkefaicaa
open Go Ab Pl
theorem law37_SerialClaims (s : Ser) (day wait : Int) : ACalls E.P 7 [encSer s, .int .i64 day, .int .i64 wait] (.d (.bool true)) := by
  refine ACalls.intro E_ok Try.func7 rfl rfl Try.ntmps7 Try.results7 (Nat.le_of_ble_eq_true rfl) fun hok base S0 w0 => ?_
  -- region 0
  refine AWp.rseq E_ok [0, 1, 2, 3, 6, 7, 8, 9, 10, 13] fun K hK => ?_
  simp [encSer_eq, encIsss_eq, serR_1, serR_2]
  repeat refine ⟨by first | omega | assumption | (simp only [maxLen]; omega) | (intros; omega) | decide, ?_⟩
  refine hK _ ?_
  clear hK K
  refine AWp.seq ?_
  -- region 1
  refine AWp.rseq E_ok [0, 1, 2, 3, 6, 7, 8, 9, 10, 13] fun K hK => ?_
  simp [encSer_eq, encIsss_eq, serR_1, serR_2]
  repeat refine ⟨by first | omega | assumption | (simp only [maxLen]; omega) | (intros; omega) | decide, ?_⟩
  refine meet.of (law37_valid s) ?_
  simp [encSer_eq, encIsss_eq, serR_1, serR_2]
  repeat refine ⟨by first | omega | assumption | (simp only [maxLen]; omega) | (intros; omega) | decide, ?_⟩
  refine hK _ ?_
  clear hK K
  refine AWp.cond rfl (fun h13 => ?_) (fun h13 => ?_)
  · try simp at h13
    -- region 2
    refine AWp.rseq E_ok [0, 1, 2, 3, 6, 7, 8, 9, 10, 13] fun K hK => ?_
    simp [encSer_eq, encIsss_eq, serR_1, serR_2]
    repeat refine ⟨by first | omega | assumption | (simp only [maxLen]; omega) | (intros; omega) | decide, ?_⟩
    refine meet.of (law37_alive) ?_
    simp [encSer_eq, encIsss_eq, serR_1, serR_2]
    repeat refine ⟨by first | omega | assumption | (simp only [maxLen]; omega) | (intros; omega) | decide, ?_⟩
    refine hK _ ?_
    clear hK K
    refine AWp.ret ?_
    repeat first | refine thenN ?_ | refine thenX ?_ | refine thenR ?_ | refine blockN ?_ | refine blockR ?_ | refine blockX ?_ | refine blockM rfl ?_
    simp [RetOk, RV]
  · try simp at h13
    have hv := h13
    have h : SerOk s := serR_ok (by simpa using hv.2)
    have hlen := len_claim day wait (small_ok (by simpa using hv.1))
    have hlen2 := len_claim2 day wait (small_ok (by simpa using hv.1))
    refine AWp.skip ?_
    repeat first | refine thenN ?_ | refine thenX ?_ | refine thenR ?_ | refine blockN ?_ | refine blockR ?_ | refine blockX ?_ | refine blockM rfl ?_
    -- region 3
    refine AWp.rseq E_ok [0, 1, 2, 3, 6, 7, 8, 9, 10, 13] fun K hK => ?_
    simp [encSer_eq, encIsss_eq, serR_1, serR_2]
    repeat refine ⟨by first | omega | assumption | (simp only [maxLen]; omega) | (intros; omega) | decide, ?_⟩
    refine meet.of (serial_Claim s day wait (by have := h.len; omega) (fun x hx => by have := h.rng hx; omega)) ?_
    simp [encSer_eq, encIsss_eq, serR_1, serR_2]
    repeat refine ⟨by first | omega | assumption | (simp only [maxLen]; omega) | (intros; omega) | decide, ?_⟩
    refine hK _ ?_
    clear hK K
    -- region 4
    refine AWp.rseq E_ok [0, 1, 2, 3, 6, 7, 8, 9, 10, 13] fun K hK => ?_
    simp [encSer_eq, encIsss_eq, serR_1, serR_2]
    repeat refine ⟨by first | omega | assumption | (simp only [maxLen]; omega) | (intros; omega) | decide, ?_⟩
    refine meet.of (ref37_Claim s day wait (by have := h.len; omega) (fun x hx => ⟨by have := h.rng hx; omega, fun e => h.free hx (.inl e)⟩) h.next) ?_
    simp [encSer_eq, encIsss_eq, serR_1, serR_2]
    repeat refine ⟨by first | omega | assumption | (simp only [maxLen]; omega) | (intros; omega) | decide, ?_⟩
    refine hK _ ?_
    clear hK K
    -- region 5
    refine AWp.rseq E_ok [0, 1, 2, 3, 6, 7, 8, 9, 10, 13] fun K hK => ?_
    simp [encSer_eq, encIsss_eq, serR_1, serR_2]
    repeat refine ⟨by first | omega | assumption | (simp only [maxLen]; omega) | (intros; omega) | decide, ?_⟩
    refine meet.of (ref37_Same (claimR s day wait).1 (claimR s day wait).1 hlen.1 hlen.2.1 hlen.2.2) ?_
    simp [encSer_eq, encIsss_eq, serR_1, serR_2]
    repeat refine ⟨by first | omega | assumption | (simp only [maxLen]; omega) | (intros; omega) | decide, ?_⟩
    refine meet.of (law37_same (claimR s day wait).2 (claimR s day wait).2 hlen2) ?_
    simp [encSer_eq, encIsss_eq, serR_1, serR_2]
    repeat refine ⟨by first | omega | assumption | (simp only [maxLen]; omega) | (intros; omega) | decide, ?_⟩
    refine meet.of (law37_alive) ?_
    simp [encSer_eq, encIsss_eq, serR_1, serR_2]
    repeat refine ⟨by first | omega | assumption | (simp only [maxLen]; omega) | (intros; omega) | decide, ?_⟩
    refine hK _ ?_
    clear hK K
    refine AWp.ret ?_
    repeat first | refine thenN ?_ | refine thenX ?_ | refine thenR ?_ | refine blockN ?_ | refine blockR ?_ | refine blockX ?_ | refine blockM rfl ?_
    simp [RetOk, RV]
end Go.Proofs.Ytceapemkefaicaa
