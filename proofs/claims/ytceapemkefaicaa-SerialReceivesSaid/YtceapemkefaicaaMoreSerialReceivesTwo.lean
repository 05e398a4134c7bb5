/-
  What the functions compute that the statement reaches: contracts, and the plain laws between them. Conditions stand at each theorem.
-/
import Derived.Test.YtceapemkefaicaaMoreSerialReceivesOne
set_option linter.unusedVariables false
set_option linter.unusedSimpArgs false
set_option maxRecDepth 100000
set_option linter.unusedSimpArgs false
set_option linter.unusedVariables false
namespace Go.Proofs.Ytceapemkefaicaa
open Go Ab Pl
theorem ref37_find (s : Ser) (v n : Int) (hl : s.iss.length ≤ 1000) : ACalls E.P 53 [encSer s, .int .i64 v, .int .i64 n] (.d (.int .i64 (fndR s.iss v n))) := by
  refine ACalls.intro E_ok Try.func53 rfl rfl Try.ntmps53 Try.results53 (Nat.le_of_ble_eq_true rfl) fun hok base S0 w0 => ?_
  -- region 0
  refine AWp.rseq E_ok [0, 1, 2, 3, 6, 7, 12, 31] fun K hK => ?_
  simp [encSer_eq, encIsss_eq, encIss_eq]
  repeat refine ⟨by first | omega | assumption | (simp only [maxLen]; omega) | (intros; omega) | decide, ?_⟩
  refine hK _ ?_
  clear hK K
  refine AWp.seq ?_
  -- region 1
  refine AWp.rseq E_ok [0, 1, 2, 3, 6, 7, 12, 31] fun K hK => ?_
  simp [encSer_eq, encIsss_eq, encIss_eq]
  repeat refine ⟨by first | omega | assumption | (simp only [maxLen]; omega) | (intros; omega) | decide, ?_⟩
  refine hK _ ?_
  clear hK K
  refine AWp.block ?_
  refine AWp.range (l := s.iss) (F := fndI v n) (tot := fndI v n 0 s.iss) (fun k y => match y with | i => i = (k : Int)) (fun k y => match y with | i => [(0, T.val (D.agg [D.int IntKind.i64 s.rcd, D.int IntKind.i64 s.pat.start, D.int IntKind.i64 s.pat.every, D.int IntKind.i64 s.pat.per, D.int IntKind.i64 s.pat.first, encInts s.pat.skip, encInts s.pat.dbl, D.int IntKind.i64 s.next, (D.agg [D.int IntKind.i64 zIss.vol, D.int IntKind.i64 zIss.num, D.int IntKind.i64 zIss.last, D.int IntKind.i64 zIss.day, D.int IntKind.i64 zIss.st, D.int IntKind.i64 zIss.item]).slice (List.map encIss s.iss)])), (1, T.val (D.int IntKind.i64 v)), (2, T.val (D.int IntKind.i64 n)), (3, T.box [C.d (D.int IntKind.i64 s.rcd), C.d (D.int IntKind.i64 s.pat.start), C.d (D.int IntKind.i64 s.pat.every), C.d (D.int IntKind.i64 s.pat.per), C.d (D.int IntKind.i64 s.pat.first), C.d (encInts s.pat.skip), C.d (encInts s.pat.dbl), C.d (D.int IntKind.i64 s.next), C.d ((D.agg [D.int IntKind.i64 zIss.vol, D.int IntKind.i64 zIss.num, D.int IntKind.i64 zIss.last, D.int IntKind.i64 zIss.day, D.int IntKind.i64 zIss.st, D.int IntKind.i64 zIss.item]).slice (List.map encIss s.iss))]), (7, T.val (.int .i64 k))]) (0) ?_ rfl ?_ ?_
  · simp [Weak, TW, encSer_eq, encIsss_eq, encIss_eq]
  · first | exact trivial | (simp; omega) | simp
  rintro k i hk hs hi
  try simp only at hi
  refine AWp.seq ?_
  -- region 2
  refine AWp.rseq E_ok [0, 1, 2, 3, 6, 7, 12, 31] fun K hK => ?_
  simp [encSer_eq, encIsss_eq, encIss_eq]
  repeat refine ⟨by first | omega | assumption | (simp only [maxLen]; omega) | (intros; omega) | decide, ?_⟩
  refine hK _ ?_
  clear hK K
  refine AWp.cond rfl (fun h12 => ?_) (fun h12 => ?_)
  · try simp at h12
    obtain ⟨x, hx, hxx, hd⟩ := at_indexG (l := s.iss) h12
    rw [hd] at hs
    have hLk : k < s.iss.length := by omega
    refine AWp.skip ?_
    repeat first | refine thenN ?_ | refine thenX ?_ | refine thenR ?_ | refine blockN ?_ | refine blockR ?_ | refine blockX ?_ | refine blockM rfl ?_
    refine AWp.seq ?_
    refine AWp.block ?_
    -- region 4
    refine AWp.rseq E_ok [0, 1, 2, 3, 6, 7, 12, 31] fun K hK => ?_
    simp [encSer_eq, encIsss_eq, encIss_eq, h12, hx, hxx]
    repeat refine ⟨by first | omega | assumption | (simp only [maxLen]; omega) | (intros; omega) | decide, ?_⟩
    refine meet.of (ref37_numbered x n) ?_
    simp [encSer_eq, encIsss_eq, encIss_eq, h12, hx, hxx]
    repeat refine ⟨by first | omega | assumption | (simp only [maxLen]; omega) | (intros; omega) | decide, ?_⟩
    refine hK _ ?_
    clear hK K
    refine AWp.cond rfl (fun h31 => ?_) (fun h31 => ?_)
    · try simp at h31
      rw [fndI, if_pos (by unfold Numd; simpa using h31)] at hs
      -- region 5
      refine AWp.rseq E_ok [0, 1, 2, 3, 6, 7, 12, 31] fun K hK => ?_
      simp [encSer_eq, encIsss_eq, encIss_eq, h12, hx, hxx]
      repeat refine ⟨by first | omega | assumption | (simp only [maxLen]; omega) | (intros; omega) | decide, ?_⟩
      refine hK _ ?_
      clear hK K
      refine AWp.ret ?_
      repeat first | refine thenN ?_ | refine thenX ?_ | refine thenR ?_ | refine blockN ?_ | refine blockR ?_ | refine blockX ?_ | refine blockM rfl ?_
      simp [RetOk, RV, fndR, ← hs, hi]
    · try simp at h31
      rw [fndI, if_neg (by unfold Numd; simpa using h31)] at hs
      refine AWp.skip ?_
      repeat first | refine thenN ?_ | refine thenX ?_ | refine thenR ?_ | refine blockN ?_ | refine blockR ?_ | refine blockX ?_ | refine blockM rfl ?_
      -- region 3
      refine AWp.rend E_ok [0, 1, 2, 3, 6, 7, 12, 31] fun K hK => ?_
      simp [encSer_eq, encIsss_eq, encIss_eq, h12, hx, hxx]
      repeat refine ⟨by first | omega | assumption | (simp only [maxLen]; omega) | (intros; omega) | decide, ?_⟩
      refine hK _ ?_
      clear hK K
      repeat first | refine thenN ?_ | refine thenX ?_ | refine thenR ?_ | refine blockN ?_ | refine blockR ?_ | refine blockX ?_ | refine blockM rfl ?_
      have hw : IntKind.i64.wrap ((k : Int) + 1) = (k : Int) + 1 := by rw [wrap_i64] <;> omega
      skip
      refine ⟨_, h12, hs, ?_, ?_⟩
      · first | exact trivial | (simp; omega) | simp
      · simp [Weak, TW, hw, encSer_eq, encIsss_eq, encIss_eq] <;> omega
  · try simp at h12
    obtain rfl : k = s.iss.length := by omega
    simp [fndI] at hs
    refine AWp.exit ?_
    repeat first | refine thenN ?_ | refine thenX ?_ | refine thenR ?_ | refine blockN ?_ | refine blockR ?_ | refine blockX ?_ | refine blockM rfl ?_
    -- region 6
    refine AWp.rseq E_ok [0, 1, 2, 3, 6, 7, 12, 31] fun K hK => ?_
    simp [encSer_eq, encIsss_eq, encIss_eq, h12]
    repeat refine ⟨by first | omega | assumption | (simp only [maxLen]; omega) | (intros; omega) | decide, ?_⟩
    refine hK _ ?_
    clear hK K
    refine AWp.ret ?_
    repeat first | refine thenN ?_ | refine thenX ?_ | refine thenR ?_ | refine blockN ?_ | refine blockR ?_ | refine blockX ?_ | refine blockM rfl ?_
    simp [RetOk, RV, fndR, ← hs, hi]
end Go.Proofs.Ytceapemkefaicaa

set_option maxRecDepth 100000
set_option linter.unusedSimpArgs false
set_option linter.unusedVariables false
namespace Go.Proofs.Ytceapemkefaicaa
open Go Ab Pl
theorem ref37_known (s : Ser) (it : Int) (hl : s.iss.length ≤ 1000) : ACalls E.P 54 [encSer s, .int .i64 it] (.d (.bool (hasIt s.iss it))) := by
  refine ACalls.intro E_ok Try.func54 rfl rfl Try.ntmps54 Try.results54 (Nat.le_of_ble_eq_true rfl) fun hok base S0 w0 => ?_
  -- region 0
  refine AWp.rseq E_ok [0, 1, 2, 4, 5, 10, 20] fun K hK => ?_
  simp [encSer_eq, encIsss_eq, encIss_eq]
  repeat refine ⟨by first | omega | assumption | (simp only [maxLen]; omega) | (intros; omega) | decide, ?_⟩
  refine hK _ ?_
  clear hK K
  refine AWp.seq ?_
  -- region 1
  refine AWp.rseq E_ok [0, 1, 2, 4, 5, 10, 20] fun K hK => ?_
  simp [encSer_eq, encIsss_eq, encIss_eq]
  repeat refine ⟨by first | omega | assumption | (simp only [maxLen]; omega) | (intros; omega) | decide, ?_⟩
  refine hK _ ?_
  clear hK K
  refine AWp.block ?_
  refine AWp.range (l := s.iss) (F := hasF' it) (tot := hasF' it () s.iss) (fun k y => match y with | () => True) (fun k y => match y with | () => [(0, T.val (D.agg [D.int IntKind.i64 s.rcd, D.int IntKind.i64 s.pat.start, D.int IntKind.i64 s.pat.every, D.int IntKind.i64 s.pat.per, D.int IntKind.i64 s.pat.first, encInts s.pat.skip, encInts s.pat.dbl, D.int IntKind.i64 s.next, (D.agg [D.int IntKind.i64 zIss.vol, D.int IntKind.i64 zIss.num, D.int IntKind.i64 zIss.last, D.int IntKind.i64 zIss.day, D.int IntKind.i64 zIss.st, D.int IntKind.i64 zIss.item]).slice (List.map encIss s.iss)])), (1, T.val (D.int IntKind.i64 it)), (2, T.box [C.d (D.int IntKind.i64 s.rcd), C.d (D.int IntKind.i64 s.pat.start), C.d (D.int IntKind.i64 s.pat.every), C.d (D.int IntKind.i64 s.pat.per), C.d (D.int IntKind.i64 s.pat.first), C.d (encInts s.pat.skip), C.d (encInts s.pat.dbl), C.d (D.int IntKind.i64 s.next), C.d ((D.agg [D.int IntKind.i64 zIss.vol, D.int IntKind.i64 zIss.num, D.int IntKind.i64 zIss.last, D.int IntKind.i64 zIss.day, D.int IntKind.i64 zIss.st, D.int IntKind.i64 zIss.item]).slice (List.map encIss s.iss))]), (5, T.val (.int .i64 k))]) () ?_ rfl ?_ ?_
  · simp [Weak, TW, encSer_eq, encIsss_eq, encIss_eq]
  · first | exact trivial | (simp; omega) | simp
  rintro k ⟨⟩ hk hs hi
  try simp only at hi
  refine AWp.seq ?_
  -- region 2
  refine AWp.rseq E_ok [0, 1, 2, 4, 5, 10, 20] fun K hK => ?_
  simp [encSer_eq, encIsss_eq, encIss_eq]
  repeat refine ⟨by first | omega | assumption | (simp only [maxLen]; omega) | (intros; omega) | decide, ?_⟩
  refine hK _ ?_
  clear hK K
  refine AWp.cond rfl (fun h10 => ?_) (fun h10 => ?_)
  · try simp at h10
    obtain ⟨x, hx, hxx, hd⟩ := at_indexG (l := s.iss) h10
    rw [hd] at hs
    refine AWp.skip ?_
    repeat first | refine thenN ?_ | refine thenX ?_ | refine thenR ?_ | refine blockN ?_ | refine blockR ?_ | refine blockX ?_ | refine blockM rfl ?_
    refine AWp.seq ?_
    refine AWp.block ?_
    -- region 4
    refine AWp.rseq E_ok [0, 1, 2, 4, 5, 10, 20] fun K hK => ?_
    simp [encSer_eq, encIsss_eq, encIss_eq, h10, hx, hxx]
    repeat refine ⟨by first | omega | assumption | (simp only [maxLen]; omega) | (intros; omega) | decide, ?_⟩
    refine hK _ ?_
    clear hK K
    refine AWp.cond rfl (fun h20 => ?_) (fun h20 => ?_)
    · try simp at h20
      rw [hasF', if_pos h20] at hs
      -- region 5
      refine AWp.rseq E_ok [0, 1, 2, 4, 5, 10, 20] fun K hK => ?_
      simp [encSer_eq, encIsss_eq, encIss_eq, h10, hx, hxx]
      repeat refine ⟨by first | omega | assumption | (simp only [maxLen]; omega) | (intros; omega) | decide, ?_⟩
      refine hK _ ?_
      clear hK K
      refine AWp.ret ?_
      repeat first | refine thenN ?_ | refine thenX ?_ | refine thenR ?_ | refine blockN ?_ | refine blockR ?_ | refine blockX ?_ | refine blockM rfl ?_
      rw [hasF'_eq] at hs; simp [RetOk, RV, ← hs]
    · try simp at h20
      rw [hasF', if_neg (by omega)] at hs
      refine AWp.skip ?_
      repeat first | refine thenN ?_ | refine thenX ?_ | refine thenR ?_ | refine blockN ?_ | refine blockR ?_ | refine blockX ?_ | refine blockM rfl ?_
      -- region 3
      refine AWp.rend E_ok [0, 1, 2, 4, 5, 10, 20] fun K hK => ?_
      simp [encSer_eq, encIsss_eq, encIss_eq, h10, hx, hxx]
      repeat refine ⟨by first | omega | assumption | (simp only [maxLen]; omega) | (intros; omega) | decide, ?_⟩
      refine hK _ ?_
      clear hK K
      repeat first | refine thenN ?_ | refine thenX ?_ | refine thenR ?_ | refine blockN ?_ | refine blockR ?_ | refine blockX ?_ | refine blockM rfl ?_
      have hw : IntKind.i64.wrap ((k : Int) + 1) = (k : Int) + 1 := by rw [wrap_i64] <;> omega
      skip
      refine ⟨_, h10, hs, ?_, ?_⟩
      · first | exact trivial | (simp; omega) | simp
      · simp [Weak, TW, hw, encSer_eq, encIsss_eq, encIss_eq]
  · try simp at h10
    obtain rfl : k = s.iss.length := by omega
    simp [hasF'] at hs
    refine AWp.exit ?_
    repeat first | refine thenN ?_ | refine thenX ?_ | refine thenR ?_ | refine blockN ?_ | refine blockR ?_ | refine blockX ?_ | refine blockM rfl ?_
    -- region 6
    refine AWp.rseq E_ok [0, 1, 2, 4, 5, 10, 20] fun K hK => ?_
    simp [encSer_eq, encIsss_eq, encIss_eq, h10]
    repeat refine ⟨by first | omega | assumption | (simp only [maxLen]; omega) | (intros; omega) | decide, ?_⟩
    refine hK _ ?_
    clear hK K
    refine AWp.ret ?_
    repeat first | refine thenN ?_ | refine thenX ?_ | refine thenR ?_ | refine blockN ?_ | refine blockR ?_ | refine blockX ?_ | refine blockM rfl ?_
    rw [hasF'_eq] at hs; simp [RetOk, RV, ← hs]
end Go.Proofs.Ytceapemkefaicaa

set_option maxRecDepth 100000
set_option linter.unusedSimpArgs false
set_option linter.unusedVariables false
namespace Go.Proofs.Ytceapemkefaicaa
open Go Ab Pl
theorem ref37_with (s : Ser) (l : List Iss) (hl : l.length ≤ 1000000) : ACalls E.P 50 [encSer s, encIsss l] (.d (encSer ⟨s.rcd, s.pat, (l.length : Int), l⟩)) := by
  refine ACalls.intro E_ok Try.func50 rfl rfl Try.ntmps50 Try.results50 (Nat.le_of_ble_eq_true rfl) fun hok base S0 w0 => ?_
  -- region 0
  refine AWp.rseq E_ok [0, 1, 2, 4] fun K hK => ?_
  simp [encSer_eq, encIsss_eq]
  repeat refine ⟨by first | omega | assumption | (simp only [maxLen]; omega) | (intros; omega) | decide, ?_⟩
  refine hK _ ?_
  clear hK K
  -- region 1
  refine AWp.rseq E_ok [0, 1, 2, 4] fun K hK => ?_
  simp [encSer_eq, encIsss_eq]
  repeat refine ⟨by first | omega | assumption | (simp only [maxLen]; omega) | (intros; omega) | decide, ?_⟩
  refine hK _ ?_
  clear hK K
  refine AWp.ret ?_
  repeat first | refine thenN ?_ | refine thenX ?_ | refine thenR ?_ | refine blockN ?_ | refine blockR ?_ | refine blockX ?_ | refine blockM rfl ?_
  simp [RetOk, RV, encSer_eq, encIsss_eq]
end Go.Proofs.Ytceapemkefaicaa

set_option maxRecDepth 100000
set_option linter.unusedSimpArgs false
set_option linter.unusedVariables false
namespace Go.Proofs.Ytceapemkefaicaa
open Go Ab Pl
theorem ref37_put (s : Ser) (k : Nat) (x : Iss) (hk : k < s.iss.length) (hl : s.iss.length ≤ 1000) : ACalls E.P 55 [encSer s, .int .i64 k, encIss x] (.d (encSer ⟨s.rcd, s.pat, (s.iss.length : Int), s.iss.set k x⟩)) := by
  refine ACalls.intro E_ok Try.func55 rfl rfl Try.ntmps55 Try.results55 (Nat.le_of_ble_eq_true rfl) fun hok base S0 w0 => ?_
  have hsp := put_split (y := x) hk
  have hk1 : IntKind.i64.wrap ((k : Int) + 1) = (k : Int) + 1 := by rw [wrap_i64] <;> omega
  have hcall := ref37_with s (s.iss.set k x) (by simp; omega)
  simp [encSer_eq, encIsss_eq, encIss_eq, zIss, hsp] at hcall
  -- region 0
  refine AWp.rseq E_ok [0, 1, 2, 3, 5, 6, 7] fun K hK => ?_
  simp [encSer_eq, encIsss_eq, encIss_eq, zIss, hk1]
  try simp (disch := omega) only [wrap_i64]
  repeat refine ⟨by first | omega | assumption | (simp only [maxLen]; omega) | (intros; omega) | decide, ?_⟩
  refine hK _ ?_
  clear hK K
  -- region 1
  refine AWp.rseq E_ok [0, 1, 2, 3, 5, 6, 7] fun K hK => ?_
  simp [encSer_eq, encIsss_eq, encIss_eq, zIss, hk1]
  try simp (disch := omega) only [wrap_i64]
  repeat refine ⟨by first | omega | assumption | (simp only [maxLen]; omega) | (intros; omega) | decide, ?_⟩
  refine hK _ ?_
  clear hK K
  -- region 2
  refine AWp.rseq E_ok [0, 1, 2, 3, 5, 6, 7] fun K hK => ?_
  simp [encSer_eq, encIsss_eq, encIss_eq, zIss, hk1]
  try simp (disch := omega) only [wrap_i64]
  repeat refine ⟨by first | omega | assumption | (simp only [maxLen]; omega) | (intros; omega) | decide, ?_⟩
  refine hK _ ?_
  clear hK K
  -- region 3
  refine AWp.rseq E_ok [0, 1, 2, 3, 5, 6, 7] fun K hK => ?_
  simp [encSer_eq, encIsss_eq, encIss_eq, zIss, hk1]
  try simp (disch := omega) only [wrap_i64]
  repeat refine ⟨by first | omega | assumption | (simp only [maxLen]; omega) | (intros; omega) | decide, ?_⟩
  refine hK _ ?_
  clear hK K
  -- region 4
  refine AWp.rseq E_ok [0, 1, 2, 3, 5, 6, 7] fun K hK => ?_
  simp [encSer_eq, encIsss_eq, encIss_eq, zIss, hk1]
  try simp (disch := omega) only [wrap_i64]
  repeat refine ⟨by first | omega | assumption | (simp only [maxLen]; omega) | (intros; omega) | decide, ?_⟩
  refine meet.of (hcall) ?_
  simp [encSer_eq, encIsss_eq, encIss_eq, zIss, hk1]
  try simp (disch := omega) only [wrap_i64]
  repeat refine ⟨by first | omega | assumption | (simp only [maxLen]; omega) | (intros; omega) | decide, ?_⟩
  refine hK _ ?_
  clear hK K
  refine AWp.ret ?_
  repeat first | refine thenN ?_ | refine thenX ?_ | refine thenR ?_ | refine blockN ?_ | refine blockR ?_ | refine blockX ?_ | refine blockM rfl ?_
  simp [RetOk, RV, encSer_eq, encIsss_eq, encIss_eq, zIss, hsp] <;> omega
end Go.Proofs.Ytceapemkefaicaa

set_option maxRecDepth 100000
set_option linter.unusedSimpArgs false
set_option linter.unusedVariables false
namespace Go.Proofs.Ytceapemkefaicaa
open Go Ab Pl
theorem ref37_changed (x : Iss) (st it : Int) : ACalls E.P 56 [encIss x, .int .i64 st, .int .i64 it] (.d (encIss { x with st := st, item := it })) := by
  refine ACalls.intro E_ok Try.func56 rfl rfl Try.ntmps56 Try.results56 (Nat.le_of_ble_eq_true rfl) fun hok base S0 w0 => ?_
  -- region 0
  refine AWp.rseq E_ok [0, 1, 2, 3, 6] fun K hK => ?_
  simp [encIss_eq]
  repeat refine ⟨by first | omega | assumption | (simp only [maxLen]; omega) | (intros; omega) | decide, ?_⟩
  refine hK _ ?_
  clear hK K
  -- region 1
  refine AWp.rseq E_ok [0, 1, 2, 3, 6] fun K hK => ?_
  simp [encIss_eq]
  repeat refine ⟨by first | omega | assumption | (simp only [maxLen]; omega) | (intros; omega) | decide, ?_⟩
  refine hK _ ?_
  clear hK K
  refine AWp.ret ?_
  repeat first | refine thenN ?_ | refine thenX ?_ | refine thenR ?_ | refine blockN ?_ | refine blockR ?_ | refine blockX ?_ | refine blockM rfl ?_
  simp [RetOk, RV, encIss_eq]
end Go.Proofs.Ytceapemkefaicaa

set_option maxRecDepth 100000
set_option linter.unusedSimpArgs false
set_option linter.unusedVariables false
namespace Go.Proofs.Ytceapemkefaicaa
open Go Ab Pl
set_option maxHeartbeats 4000000 in
theorem ref37_Receive (s : Ser) (v n it : Int) (hl : s.iss.length ≤ 1000) (hnx : s.next = (s.iss.length : Int)) (hst : ∀ x ∈ s.iss, 1 ≤ x.st ∧ x.st ≤ 5) : ACalls E.P 25 [encSer s, .int .i64 v, .int .i64 n, .int .i64 it] (.tup [encSer (recR s v n it).1, .int .i64 (recR s v n it).2]) := by
  refine ACalls.intro E_ok Try.func25 rfl rfl Try.ntmps25 Try.results25 (Nat.le_of_ble_eq_true rfl) fun hok base S0 w0 => ?_
  have hf := fndR_rng s.iss v n
  have hir := itemR_rng s.iss it
  -- region 0
  refine AWp.rseq E_ok [0, 1, 2, 3, 4, 8, 9, 10, 11, 17, 36, 43, 47] fun K hK => ?_
  simp [encSer_eq, encIsss_eq, encIss_eq]
  try simp (disch := omega) only [wrap_i64]
  repeat refine ⟨by first | omega | assumption | (simp only [maxLen]; omega) | (intros; omega) | decide, ?_⟩
  refine hK _ ?_
  clear hK K
  -- region 1
  refine AWp.rseq E_ok [0, 1, 2, 3, 4, 8, 9, 10, 11, 17, 36, 43, 47] fun K hK => ?_
  simp [encSer_eq, encIsss_eq, encIss_eq]
  try simp (disch := omega) only [wrap_i64]
  repeat refine ⟨by first | omega | assumption | (simp only [maxLen]; omega) | (intros; omega) | decide, ?_⟩
  refine meet.of (ref37_find s v n (by omega)) ?_
  simp [encSer_eq, encIsss_eq, encIss_eq]
  try simp (disch := omega) only [wrap_i64]
  repeat refine ⟨by first | omega | assumption | (simp only [maxLen]; omega) | (intros; omega) | decide, ?_⟩
  refine hK _ ?_
  clear hK K
  refine AWp.seq ?_
  -- region 2
  refine AWp.rseq E_ok [0, 1, 2, 3, 4, 8, 9, 10, 11, 17, 36, 43, 47] fun K hK => ?_
  simp [encSer_eq, encIsss_eq, encIss_eq]
  try simp (disch := omega) only [wrap_i64]
  repeat refine ⟨by first | omega | assumption | (simp only [maxLen]; omega) | (intros; omega) | decide, ?_⟩
  refine hK _ ?_
  clear hK K
  refine AWp.cond rfl (fun h17 => ?_) (fun h17 => ?_)
  · try simp at h17
    have hb := rec_none (it := it) (show fndR s.iss v n < 0 by omega)
    -- region 3
    refine AWp.rseq E_ok [0, 1, 2, 3, 4, 8, 9, 10, 11, 17, 36, 43, 47] fun K hK => ?_
    simp [encSer_eq, encIsss_eq, encIss_eq]
    try simp (disch := omega) only [wrap_i64]
    repeat refine ⟨by first | omega | assumption | (simp only [maxLen]; omega) | (intros; omega) | decide, ?_⟩
    refine hK _ ?_
    clear hK K
    refine AWp.ret ?_
    repeat first | refine thenN ?_ | refine thenX ?_ | refine thenR ?_ | refine blockN ?_ | refine blockR ?_ | refine blockX ?_ | refine blockM rfl ?_
    simp [RetOk, RV, RVs, hb, zSer, zPat, encSer_eq, encInts_eq, encIsss_eq, encIss_eq, zIss, hnx]
  · try simp at h17
    obtain ⟨k, x, e, hk, hx, hg, hnum⟩ := fndR_at (l := s.iss) (v := v) (n := n) (by omega)
    have hb := rec_at (it := it) e hg
    have hxy : s.iss[k]'hk = x := (List.getElem?_eq_some_iff.1 hx).2
    have hxs := hst x (List.mem_of_getElem? hx)
    refine AWp.skip ?_
    repeat first | refine thenN ?_ | refine thenX ?_ | refine thenR ?_ | refine blockN ?_ | refine blockR ?_ | refine blockX ?_ | refine blockM rfl ?_
    -- region 4
    refine AWp.rseq E_ok [0, 1, 2, 3, 4, 8, 9, 10, 11, 17, 36, 43, 47] fun K hK => ?_
    simp [encSer_eq, encIsss_eq, encIss_eq, e, hx, hk, hxy]
    try simp (disch := omega) only [wrap_i64]
    repeat refine ⟨by first | omega | assumption | (simp only [maxLen]; omega) | (intros; omega) | decide, ?_⟩
    refine hK _ ?_
    clear hK K
    refine AWp.seq ?_
    -- region 5
    refine AWp.rseq E_ok [0, 1, 2, 3, 4, 8, 9, 10, 11, 17, 36, 43, 47] fun K hK => ?_
    simp [encSer_eq, encIsss_eq, encIss_eq, e, hx, hk, hxy]
    try simp (disch := omega) only [wrap_i64]
    repeat refine ⟨by first | omega | assumption | (simp only [maxLen]; omega) | (intros; omega) | decide, ?_⟩
    refine hK _ ?_
    clear hK K
    refine AWp.cond rfl (fun h36 => ?_) (fun h36 => ?_)
    · try simp at h36
      rw [if_pos (hasI_t (by omega))] at hb
      -- region 6
      refine AWp.rseq E_ok [0, 1, 2, 3, 4, 8, 9, 10, 11, 17, 36, 43, 47] fun K hK => ?_
      simp [encSer_eq, encIsss_eq, encIss_eq, e, hx, hk, hxy]
      try simp (disch := omega) only [wrap_i64]
      repeat refine ⟨by first | omega | assumption | (simp only [maxLen]; omega) | (intros; omega) | decide, ?_⟩
      refine hK _ ?_
      clear hK K
      refine AWp.ret ?_
      repeat first | refine thenN ?_ | refine thenX ?_ | refine thenR ?_ | refine blockN ?_ | refine blockR ?_ | refine blockX ?_ | refine blockM rfl ?_
      simp [RetOk, RV, RVs, hb, zSer, zPat, encSer_eq, encInts_eq, encIsss_eq, encIss_eq, zIss, hnx]
    · try simp at h36
      rw [if_neg (by rw [hasI_f (by omega)]; decide)] at hb
      refine AWp.skip ?_
      repeat first | refine thenN ?_ | refine thenX ?_ | refine thenR ?_ | refine blockN ?_ | refine blockR ?_ | refine blockX ?_ | refine blockM rfl ?_
      refine AWp.seq ?_
      -- region 7
      refine AWp.rseq E_ok [0, 1, 2, 3, 4, 8, 9, 10, 11, 17, 36, 43, 47] fun K hK => ?_
      simp [encSer_eq, encIsss_eq, encIss_eq, e, hx, hk, hxy]
      try simp (disch := omega) only [wrap_i64]
      repeat refine ⟨by first | omega | assumption | (simp only [maxLen]; omega) | (intros; omega) | decide, ?_⟩
      refine hK _ ?_
      clear hK K
      refine AWp.cond rfl (fun h43 => ?_) (fun h43 => ?_)
      · try simp at h43
        rw [if_pos (by unfold itemR; rw [if_pos (by omega)]; decide), show itemR s.iss it = 2 from if_pos (by omega)] at hb
        -- region 8
        refine AWp.rseq E_ok [0, 1, 2, 3, 4, 8, 9, 10, 11, 17, 36, 43, 47] fun K hK => ?_
        simp [encSer_eq, encIsss_eq, encIss_eq, e, hx, hk, hxy]
        try simp (disch := omega) only [wrap_i64]
        repeat refine ⟨by first | omega | assumption | (simp only [maxLen]; omega) | (intros; omega) | decide, ?_⟩
        refine hK _ ?_
        clear hK K
        refine AWp.ret ?_
        repeat first | refine thenN ?_ | refine thenX ?_ | refine thenR ?_ | refine blockN ?_ | refine blockR ?_ | refine blockX ?_ | refine blockM rfl ?_
        simp [RetOk, RV, RVs, hb, zSer, zPat, encSer_eq, encInts_eq, encIsss_eq, encIss_eq, zIss, hnx]
      · try simp at h43
        refine AWp.skip ?_
        repeat first | refine thenN ?_ | refine thenX ?_ | refine thenR ?_ | refine blockN ?_ | refine blockR ?_ | refine blockX ?_ | refine blockM rfl ?_
        refine AWp.seq ?_
        -- region 9
        refine AWp.rseq E_ok [0, 1, 2, 3, 4, 8, 9, 10, 11, 17, 36, 43, 47] fun K hK => ?_
        simp [encSer_eq, encIsss_eq, encIss_eq, e, hx, hk, hxy]
        try simp (disch := omega) only [wrap_i64]
        repeat refine ⟨by first | omega | assumption | (simp only [maxLen]; omega) | (intros; omega) | decide, ?_⟩
        refine meet.of (ref37_known s it (by omega)) ?_
        simp [encSer_eq, encIsss_eq, encIss_eq, e, hx, hk, hxy]
        try simp (disch := omega) only [wrap_i64]
        repeat refine ⟨by first | omega | assumption | (simp only [maxLen]; omega) | (intros; omega) | decide, ?_⟩
        refine hK _ ?_
        clear hK K
        refine AWp.cond rfl (fun h47 => ?_) (fun h47 => ?_)
        · try simp at h47
          rw [show itemR s.iss it = 7 by unfold itemR; rw [if_neg (by omega), if_pos h47], if_pos (by decide)] at hb
          -- region 10
          refine AWp.rseq E_ok [0, 1, 2, 3, 4, 8, 9, 10, 11, 17, 36, 43, 47] fun K hK => ?_
          simp [encSer_eq, encIsss_eq, encIss_eq, e, hx, hk, hxy]
          try simp (disch := omega) only [wrap_i64]
          repeat refine ⟨by first | omega | assumption | (simp only [maxLen]; omega) | (intros; omega) | decide, ?_⟩
          refine hK _ ?_
          clear hK K
          refine AWp.ret ?_
          repeat first | refine thenN ?_ | refine thenX ?_ | refine thenR ?_ | refine blockN ?_ | refine blockR ?_ | refine blockX ?_ | refine blockM rfl ?_
          simp [RetOk, RV, RVs, hb, zSer, zPat, encSer_eq, encInts_eq, encIsss_eq, encIss_eq, zIss, hnx]
        · try simp at h47
          rw [show itemR s.iss it = 0 by unfold itemR; rw [if_neg (by omega), if_neg (by rw [h47]; decide)], if_neg (by decide)] at hb
          refine AWp.skip ?_
          repeat first | refine thenN ?_ | refine thenX ?_ | refine thenR ?_ | refine blockN ?_ | refine blockR ?_ | refine blockX ?_ | refine blockM rfl ?_
          -- region 11, every order
          refine AWp.rseqS E_ok mixed [0, 1, 2, 3, 4, 8, 9, 10, 11, 17, 36, 43, 47] (n := 8) (l := #[false, false, false, false, false, false, false, false]) rfl (by kernel_rfl) fun K hK => ?_
          suffices hnext : K [(0, T.val (D.agg [D.int IntKind.i64 s.rcd, D.int IntKind.i64 s.pat.start, D.int IntKind.i64 s.pat.every, D.int IntKind.i64 s.pat.per, D.int IntKind.i64 s.pat.first, encInts s.pat.skip, encInts s.pat.dbl, D.int IntKind.i64 s.next, (D.agg [D.int IntKind.i64 zIss.vol, D.int IntKind.i64 zIss.num, D.int IntKind.i64 zIss.last, D.int IntKind.i64 zIss.day, D.int IntKind.i64 zIss.st, D.int IntKind.i64 zIss.item]).slice (List.map encIss s.iss)])), (1, T.val (D.int IntKind.i64 v)), (2, T.val (D.int IntKind.i64 n)), (3, T.val (D.int IntKind.i64 it)), (4, T.box [C.d (D.int IntKind.i64 s.rcd), C.d (D.int IntKind.i64 s.pat.start), C.d (D.int IntKind.i64 s.pat.every), C.d (D.int IntKind.i64 s.pat.per), C.d (D.int IntKind.i64 s.pat.first), C.d (encInts s.pat.skip), C.d (encInts s.pat.dbl), C.d (D.int IntKind.i64 s.next), C.d ((D.agg [D.int IntKind.i64 zIss.vol, D.int IntKind.i64 zIss.num, D.int IntKind.i64 zIss.last, D.int IntKind.i64 zIss.day, D.int IntKind.i64 zIss.st, D.int IntKind.i64 zIss.item]).slice (List.map encIss s.iss))]), (8, T.box [C.d (D.int IntKind.i64 s.rcd), C.d (D.int IntKind.i64 s.pat.start), C.d (D.int IntKind.i64 s.pat.every), C.d (D.int IntKind.i64 s.pat.per), C.d (D.int IntKind.i64 s.pat.first), C.d (encInts s.pat.skip), C.d (encInts s.pat.dbl), C.d (D.int IntKind.i64 ↑s.iss.length), C.d ((D.agg [D.int IntKind.i64 zIss.vol, D.int IntKind.i64 zIss.num, D.int IntKind.i64 zIss.last, D.int IntKind.i64 zIss.day, D.int IntKind.i64 zIss.st, D.int IntKind.i64 zIss.item]).slice ((List.map encIss s.iss).set k (D.agg [D.int IntKind.i64 x.vol, D.int IntKind.i64 x.num, D.int IntKind.i64 x.last, D.int IntKind.i64 x.day, D.int IntKind.i64 (2 : Int), D.int IntKind.i64 it])))]), (9, T.val (D.int IntKind.i64 (0 : Int))), (10, T.val (D.int IntKind.i64 ↑k)), (11, T.box [C.d (D.int IntKind.i64 x.vol), C.d (D.int IntKind.i64 x.num), C.d (D.int IntKind.i64 x.last), C.d (D.int IntKind.i64 x.day), C.d (D.int IntKind.i64 x.st), C.d (D.int IntKind.i64 x.item)]), (17, T.val (D.bool (decide (↑k < (0 : Int))))), (36, T.val (D.bool (x.st != (1 : Int) && x.st != (3 : Int) && x.st != (5 : Int)))), (43, T.val (D.bool (decide (it < (1 : Int)) || decide ((9999 : Int) < it)))), (47, T.val (D.bool (hasIt s.iss it)))] by
            refine contS.cut 0 #[true, true, true, true, true, true, true, true] [(0, T.val (D.agg [D.int IntKind.i64 s.rcd, D.int IntKind.i64 s.pat.start, D.int IntKind.i64 s.pat.every, D.int IntKind.i64 s.pat.per, D.int IntKind.i64 s.pat.first, encInts s.pat.skip, encInts s.pat.dbl, D.int IntKind.i64 s.next, (D.agg [D.int IntKind.i64 zIss.vol, D.int IntKind.i64 zIss.num, D.int IntKind.i64 zIss.last, D.int IntKind.i64 zIss.day, D.int IntKind.i64 zIss.st, D.int IntKind.i64 zIss.item]).slice (List.map encIss s.iss)])), (1, T.val (D.int IntKind.i64 v)), (2, T.val (D.int IntKind.i64 n)), (3, T.val (D.int IntKind.i64 it)), (4, T.box [C.d (D.int IntKind.i64 s.rcd), C.d (D.int IntKind.i64 s.pat.start), C.d (D.int IntKind.i64 s.pat.every), C.d (D.int IntKind.i64 s.pat.per), C.d (D.int IntKind.i64 s.pat.first), C.d (encInts s.pat.skip), C.d (encInts s.pat.dbl), C.d (D.int IntKind.i64 s.next), C.d ((D.agg [D.int IntKind.i64 zIss.vol, D.int IntKind.i64 zIss.num, D.int IntKind.i64 zIss.last, D.int IntKind.i64 zIss.day, D.int IntKind.i64 zIss.st, D.int IntKind.i64 zIss.item]).slice (List.map encIss s.iss))]), (8, T.box [C.d (D.int IntKind.i64 s.rcd), C.d (D.int IntKind.i64 s.pat.start), C.d (D.int IntKind.i64 s.pat.every), C.d (D.int IntKind.i64 s.pat.per), C.d (D.int IntKind.i64 s.pat.first), C.d (encInts s.pat.skip), C.d (encInts s.pat.dbl), C.d (D.int IntKind.i64 ↑s.iss.length), C.d ((D.agg [D.int IntKind.i64 zIss.vol, D.int IntKind.i64 zIss.num, D.int IntKind.i64 zIss.last, D.int IntKind.i64 zIss.day, D.int IntKind.i64 zIss.st, D.int IntKind.i64 zIss.item]).slice ((List.map encIss s.iss).set k (D.agg [D.int IntKind.i64 x.vol, D.int IntKind.i64 x.num, D.int IntKind.i64 x.last, D.int IntKind.i64 x.day, D.int IntKind.i64 (2 : Int), D.int IntKind.i64 it])))]), (9, T.val (D.int IntKind.i64 (0 : Int))), (10, T.val (D.int IntKind.i64 ↑k)), (11, T.box [C.d (D.int IntKind.i64 x.vol), C.d (D.int IntKind.i64 x.num), C.d (D.int IntKind.i64 x.last), C.d (D.int IntKind.i64 x.day), C.d (D.int IntKind.i64 x.st), C.d (D.int IntKind.i64 x.item)]), (17, T.val (D.bool (decide (↑k < (0 : Int))))), (36, T.val (D.bool (x.st != (1 : Int) && x.st != (3 : Int) && x.st != (5 : Int)))), (43, T.val (D.bool (decide (it < (1 : Int)) || decide ((9999 : Int) < it)))), (47, T.val (D.bool (hasIt s.iss it)))] ?_ fun h_0_2_4_5_6_ => ?_
            · skip
              refine coreS.nil (by kernel_rfl) ?_
              simpa [encSer_eq, encIsss_eq, encIss_eq] using hnext
            refine contS.cut 2 #[true, true, true, true, true, true, false, false] [(0, T.val (D.agg [D.int IntKind.i64 s.rcd, D.int IntKind.i64 s.pat.start, D.int IntKind.i64 s.pat.every, D.int IntKind.i64 s.pat.per, D.int IntKind.i64 s.pat.first, encInts s.pat.skip, encInts s.pat.dbl, D.int IntKind.i64 s.next, (D.agg [D.int IntKind.i64 zIss.vol, D.int IntKind.i64 zIss.num, D.int IntKind.i64 zIss.last, D.int IntKind.i64 zIss.day, D.int IntKind.i64 zIss.st, D.int IntKind.i64 zIss.item]).slice (List.map encIss s.iss)])), (1, T.val (D.int IntKind.i64 v)), (2, T.val (D.int IntKind.i64 n)), (3, T.val (D.int IntKind.i64 it)), (4, T.box [C.d (D.int IntKind.i64 s.rcd), C.d (D.int IntKind.i64 s.pat.start), C.d (D.int IntKind.i64 s.pat.every), C.d (D.int IntKind.i64 s.pat.per), C.d (D.int IntKind.i64 s.pat.first), C.d (encInts s.pat.skip), C.d (encInts s.pat.dbl), C.d (D.int IntKind.i64 s.next), C.d ((D.agg [D.int IntKind.i64 zIss.vol, D.int IntKind.i64 zIss.num, D.int IntKind.i64 zIss.last, D.int IntKind.i64 zIss.day, D.int IntKind.i64 zIss.st, D.int IntKind.i64 zIss.item]).slice (List.map encIss s.iss))]), (8, T.box [C.d (D.int IntKind.i64 (0 : Int)), C.d (D.int IntKind.i64 (0 : Int)), C.d (D.int IntKind.i64 (0 : Int)), C.d (D.int IntKind.i64 (0 : Int)), C.d (D.int IntKind.i64 (0 : Int)), C.d ((D.int IntKind.i64 (0 : Int)).slice []), C.d ((D.int IntKind.i64 (0 : Int)).slice []), C.d (D.int IntKind.i64 (0 : Int)), C.d ((D.agg [D.int IntKind.i64 (0 : Int), D.int IntKind.i64 (0 : Int), D.int IntKind.i64 (0 : Int), D.int IntKind.i64 (0 : Int), D.int IntKind.i64 (0 : Int), D.int IntKind.i64 (0 : Int)]).slice [])]), (9, T.val (D.int IntKind.i64 (0 : Int))), (10, T.val (D.int IntKind.i64 ↑k)), (11, T.box [C.d (D.int IntKind.i64 x.vol), C.d (D.int IntKind.i64 x.num), C.d (D.int IntKind.i64 x.last), C.d (D.int IntKind.i64 x.day), C.d (D.int IntKind.i64 x.st), C.d (D.int IntKind.i64 x.item)]), (17, T.val (D.bool (decide (↑k < (0 : Int))))), (36, T.val (D.bool (x.st != (1 : Int) && x.st != (3 : Int) && x.st != (5 : Int)))), (43, T.val (D.bool (decide (it < (1 : Int)) || decide ((9999 : Int) < it)))), (47, T.val (D.bool (hasIt s.iss it))), (54, T.val (D.agg [D.int IntKind.i64 s.rcd, D.int IntKind.i64 s.pat.start, D.int IntKind.i64 s.pat.every, D.int IntKind.i64 s.pat.per, D.int IntKind.i64 s.pat.first, encInts s.pat.skip, encInts s.pat.dbl, D.int IntKind.i64 ↑s.iss.length, (D.agg [D.int IntKind.i64 zIss.vol, D.int IntKind.i64 zIss.num, D.int IntKind.i64 zIss.last, D.int IntKind.i64 zIss.day, D.int IntKind.i64 zIss.st, D.int IntKind.i64 zIss.item]).slice ((List.map encIss s.iss).set k (D.agg [D.int IntKind.i64 x.vol, D.int IntKind.i64 x.num, D.int IntKind.i64 x.last, D.int IntKind.i64 x.day, D.int IntKind.i64 (2 : Int), D.int IntKind.i64 it]))]))] ?_ fun h_0_2_4_5 => ?_
            · skip
              refine coreS.step E_ok [6] (by kernel_rfl) (by simp) ?_
              refine anyS.cons rfl ?_ ?_
              · skip
                simp [encSer_eq, encIsss_eq, encIss_eq, e, hx, hk, hxy]
                try simp (disch := omega) only [wrap_i64]
                repeat refine ⟨by first | omega | assumption | (simp only [maxLen]; omega) | (intros; omega) | decide, ?_⟩
                refine contS.now (f' := 1) (l' := #[true, true, true, true, true, true, true, false]) ?_ rfl (by kernel_rfl)
                refine coreS.dry E_ok (by kernel_rfl) 7 rfl rfl (by kernel_rfl) (by kernel_rfl) ?_
                simp [encSer_eq, encIsss_eq, encIss_eq, e, hx, hk, hxy]
                try simp (disch := omega) only [wrap_i64]
                repeat refine ⟨by first | omega | assumption | (simp only [maxLen]; omega) | (intros; omega) | decide, ?_⟩
                exact contS.mk (by simp [Weak, TW, T.plain, encSer_eq, encIsss_eq, encIss_eq]) h_0_2_4_5_6_ (by kernel_rfl)
              exact anyS.nil
            refine contS.cut 3 #[true, true, true, true, true, false, false, false] [(0, T.val (D.agg [D.int IntKind.i64 s.rcd, D.int IntKind.i64 s.pat.start, D.int IntKind.i64 s.pat.every, D.int IntKind.i64 s.pat.per, D.int IntKind.i64 s.pat.first, encInts s.pat.skip, encInts s.pat.dbl, D.int IntKind.i64 s.next, (D.agg [D.int IntKind.i64 zIss.vol, D.int IntKind.i64 zIss.num, D.int IntKind.i64 zIss.last, D.int IntKind.i64 zIss.day, D.int IntKind.i64 zIss.st, D.int IntKind.i64 zIss.item]).slice (List.map encIss s.iss)])), (1, T.val (D.int IntKind.i64 v)), (2, T.val (D.int IntKind.i64 n)), (3, T.val (D.int IntKind.i64 it)), (4, T.box [C.d (D.int IntKind.i64 s.rcd), C.d (D.int IntKind.i64 s.pat.start), C.d (D.int IntKind.i64 s.pat.every), C.d (D.int IntKind.i64 s.pat.per), C.d (D.int IntKind.i64 s.pat.first), C.d (encInts s.pat.skip), C.d (encInts s.pat.dbl), C.d (D.int IntKind.i64 s.next), C.d ((D.agg [D.int IntKind.i64 zIss.vol, D.int IntKind.i64 zIss.num, D.int IntKind.i64 zIss.last, D.int IntKind.i64 zIss.day, D.int IntKind.i64 zIss.st, D.int IntKind.i64 zIss.item]).slice (List.map encIss s.iss))]), (8, T.box [C.d (D.int IntKind.i64 (0 : Int)), C.d (D.int IntKind.i64 (0 : Int)), C.d (D.int IntKind.i64 (0 : Int)), C.d (D.int IntKind.i64 (0 : Int)), C.d (D.int IntKind.i64 (0 : Int)), C.d ((D.int IntKind.i64 (0 : Int)).slice []), C.d ((D.int IntKind.i64 (0 : Int)).slice []), C.d (D.int IntKind.i64 (0 : Int)), C.d ((D.agg [D.int IntKind.i64 (0 : Int), D.int IntKind.i64 (0 : Int), D.int IntKind.i64 (0 : Int), D.int IntKind.i64 (0 : Int), D.int IntKind.i64 (0 : Int), D.int IntKind.i64 (0 : Int)]).slice [])]), (9, T.val (D.int IntKind.i64 (0 : Int))), (10, T.val (D.int IntKind.i64 ↑k)), (11, T.box [C.d (D.int IntKind.i64 x.vol), C.d (D.int IntKind.i64 x.num), C.d (D.int IntKind.i64 x.last), C.d (D.int IntKind.i64 x.day), C.d (D.int IntKind.i64 x.st), C.d (D.int IntKind.i64 x.item)]), (17, T.val (D.bool (decide (↑k < (0 : Int))))), (36, T.val (D.bool (x.st != (1 : Int) && x.st != (3 : Int) && x.st != (5 : Int)))), (43, T.val (D.bool (decide (it < (1 : Int)) || decide ((9999 : Int) < it)))), (47, T.val (D.bool (hasIt s.iss it))), (49, T.val (D.agg [D.int IntKind.i64 s.rcd, D.int IntKind.i64 s.pat.start, D.int IntKind.i64 s.pat.every, D.int IntKind.i64 s.pat.per, D.int IntKind.i64 s.pat.first, encInts s.pat.skip, encInts s.pat.dbl, D.int IntKind.i64 s.next, (D.agg [D.int IntKind.i64 zIss.vol, D.int IntKind.i64 zIss.num, D.int IntKind.i64 zIss.last, D.int IntKind.i64 zIss.day, D.int IntKind.i64 zIss.st, D.int IntKind.i64 zIss.item]).slice (List.map encIss s.iss)])), (50, T.val (D.int IntKind.i64 ↑k)), (53, T.val (D.agg [D.int IntKind.i64 x.vol, D.int IntKind.i64 x.num, D.int IntKind.i64 x.last, D.int IntKind.i64 x.day, D.int IntKind.i64 (2 : Int), D.int IntKind.i64 it]))] ?_ fun h_0_2_4 => ?_
            · skip
              refine coreS.step E_ok [5] (by kernel_rfl) (by simp) ?_
              refine anyS.cons rfl ?_ ?_
              · skip
                simp [encSer_eq, encIsss_eq, encIss_eq, e, hx, hk, hxy]
                try simp (disch := omega) only [wrap_i64]
                repeat refine ⟨by first | omega | assumption | (simp only [maxLen]; omega) | (intros; omega) | decide, ?_⟩
                refine meet.of (ref37_put s k { x with st := 2, item := it } hk (by omega)) ?_
                simp [encSer_eq, encIsss_eq, encIss_eq, e, hx, hk, hxy]
                try simp (disch := omega) only [wrap_i64]
                repeat refine ⟨by first | omega | assumption | (simp only [maxLen]; omega) | (intros; omega) | decide, ?_⟩
                exact contS.mk (by simp [Weak, TW, T.plain, encSer_eq, encIsss_eq, encIss_eq]) h_0_2_4_5 (by kernel_rfl)
              exact anyS.nil
            refine contS.cut 4 #[true, true, true, true, false, false, false, false] [(0, T.val (D.agg [D.int IntKind.i64 s.rcd, D.int IntKind.i64 s.pat.start, D.int IntKind.i64 s.pat.every, D.int IntKind.i64 s.pat.per, D.int IntKind.i64 s.pat.first, encInts s.pat.skip, encInts s.pat.dbl, D.int IntKind.i64 s.next, (D.agg [D.int IntKind.i64 zIss.vol, D.int IntKind.i64 zIss.num, D.int IntKind.i64 zIss.last, D.int IntKind.i64 zIss.day, D.int IntKind.i64 zIss.st, D.int IntKind.i64 zIss.item]).slice (List.map encIss s.iss)])), (1, T.val (D.int IntKind.i64 v)), (2, T.val (D.int IntKind.i64 n)), (3, T.val (D.int IntKind.i64 it)), (4, T.box [C.d (D.int IntKind.i64 s.rcd), C.d (D.int IntKind.i64 s.pat.start), C.d (D.int IntKind.i64 s.pat.every), C.d (D.int IntKind.i64 s.pat.per), C.d (D.int IntKind.i64 s.pat.first), C.d (encInts s.pat.skip), C.d (encInts s.pat.dbl), C.d (D.int IntKind.i64 s.next), C.d ((D.agg [D.int IntKind.i64 zIss.vol, D.int IntKind.i64 zIss.num, D.int IntKind.i64 zIss.last, D.int IntKind.i64 zIss.day, D.int IntKind.i64 zIss.st, D.int IntKind.i64 zIss.item]).slice (List.map encIss s.iss))]), (8, T.box [C.d (D.int IntKind.i64 (0 : Int)), C.d (D.int IntKind.i64 (0 : Int)), C.d (D.int IntKind.i64 (0 : Int)), C.d (D.int IntKind.i64 (0 : Int)), C.d (D.int IntKind.i64 (0 : Int)), C.d ((D.int IntKind.i64 (0 : Int)).slice []), C.d ((D.int IntKind.i64 (0 : Int)).slice []), C.d (D.int IntKind.i64 (0 : Int)), C.d ((D.agg [D.int IntKind.i64 (0 : Int), D.int IntKind.i64 (0 : Int), D.int IntKind.i64 (0 : Int), D.int IntKind.i64 (0 : Int), D.int IntKind.i64 (0 : Int), D.int IntKind.i64 (0 : Int)]).slice [])]), (9, T.val (D.int IntKind.i64 (0 : Int))), (10, T.val (D.int IntKind.i64 ↑k)), (11, T.box [C.d (D.int IntKind.i64 x.vol), C.d (D.int IntKind.i64 x.num), C.d (D.int IntKind.i64 x.last), C.d (D.int IntKind.i64 x.day), C.d (D.int IntKind.i64 x.st), C.d (D.int IntKind.i64 x.item)]), (17, T.val (D.bool (decide (↑k < (0 : Int))))), (36, T.val (D.bool (x.st != (1 : Int) && x.st != (3 : Int) && x.st != (5 : Int)))), (43, T.val (D.bool (decide (it < (1 : Int)) || decide ((9999 : Int) < it)))), (47, T.val (D.bool (hasIt s.iss it))), (49, T.val (D.agg [D.int IntKind.i64 s.rcd, D.int IntKind.i64 s.pat.start, D.int IntKind.i64 s.pat.every, D.int IntKind.i64 s.pat.per, D.int IntKind.i64 s.pat.first, encInts s.pat.skip, encInts s.pat.dbl, D.int IntKind.i64 s.next, (D.agg [D.int IntKind.i64 zIss.vol, D.int IntKind.i64 zIss.num, D.int IntKind.i64 zIss.last, D.int IntKind.i64 zIss.day, D.int IntKind.i64 zIss.st, D.int IntKind.i64 zIss.item]).slice (List.map encIss s.iss)])), (50, T.val (D.int IntKind.i64 ↑k)), (51, T.val (D.agg [D.int IntKind.i64 x.vol, D.int IntKind.i64 x.num, D.int IntKind.i64 x.last, D.int IntKind.i64 x.day, D.int IntKind.i64 x.st, D.int IntKind.i64 x.item])), (52, T.val (D.int IntKind.i64 it))] ?_ fun h_0_2 => ?_
            · skip
              refine coreS.step E_ok [4] (by kernel_rfl) (by simp) ?_
              refine anyS.cons rfl ?_ ?_
              · skip
                simp [encSer_eq, encIsss_eq, encIss_eq, e, hx, hk, hxy]
                try simp (disch := omega) only [wrap_i64]
                repeat refine ⟨by first | omega | assumption | (simp only [maxLen]; omega) | (intros; omega) | decide, ?_⟩
                refine meet.of (ref37_changed x 2 it) ?_
                simp [encSer_eq, encIsss_eq, encIss_eq, e, hx, hk, hxy]
                try simp (disch := omega) only [wrap_i64]
                repeat refine ⟨by first | omega | assumption | (simp only [maxLen]; omega) | (intros; omega) | decide, ?_⟩
                exact contS.mk (by simp [Weak, TW, T.plain, encSer_eq, encIsss_eq, encIss_eq]) h_0_2_4 (by kernel_rfl)
              exact anyS.nil
            refine contS.cut 4 #[false, true, true, true, true, false, false, false] [(0, T.val (D.agg [D.int IntKind.i64 s.rcd, D.int IntKind.i64 s.pat.start, D.int IntKind.i64 s.pat.every, D.int IntKind.i64 s.pat.per, D.int IntKind.i64 s.pat.first, encInts s.pat.skip, encInts s.pat.dbl, D.int IntKind.i64 s.next, (D.agg [D.int IntKind.i64 zIss.vol, D.int IntKind.i64 zIss.num, D.int IntKind.i64 zIss.last, D.int IntKind.i64 zIss.day, D.int IntKind.i64 zIss.st, D.int IntKind.i64 zIss.item]).slice (List.map encIss s.iss)])), (1, T.val (D.int IntKind.i64 v)), (2, T.val (D.int IntKind.i64 n)), (3, T.val (D.int IntKind.i64 it)), (4, T.box [C.d (D.int IntKind.i64 s.rcd), C.d (D.int IntKind.i64 s.pat.start), C.d (D.int IntKind.i64 s.pat.every), C.d (D.int IntKind.i64 s.pat.per), C.d (D.int IntKind.i64 s.pat.first), C.d (encInts s.pat.skip), C.d (encInts s.pat.dbl), C.d (D.int IntKind.i64 s.next), C.d ((D.agg [D.int IntKind.i64 zIss.vol, D.int IntKind.i64 zIss.num, D.int IntKind.i64 zIss.last, D.int IntKind.i64 zIss.day, D.int IntKind.i64 zIss.st, D.int IntKind.i64 zIss.item]).slice (List.map encIss s.iss))]), (8, T.box [C.d (D.int IntKind.i64 (0 : Int)), C.d (D.int IntKind.i64 (0 : Int)), C.d (D.int IntKind.i64 (0 : Int)), C.d (D.int IntKind.i64 (0 : Int)), C.d (D.int IntKind.i64 (0 : Int)), C.d ((D.int IntKind.i64 (0 : Int)).slice []), C.d ((D.int IntKind.i64 (0 : Int)).slice []), C.d (D.int IntKind.i64 (0 : Int)), C.d ((D.agg [D.int IntKind.i64 (0 : Int), D.int IntKind.i64 (0 : Int), D.int IntKind.i64 (0 : Int), D.int IntKind.i64 (0 : Int), D.int IntKind.i64 (0 : Int), D.int IntKind.i64 (0 : Int)]).slice [])]), (9, T.val (D.int IntKind.i64 (0 : Int))), (10, T.val (D.int IntKind.i64 ↑k)), (11, T.box [C.d (D.int IntKind.i64 x.vol), C.d (D.int IntKind.i64 x.num), C.d (D.int IntKind.i64 x.last), C.d (D.int IntKind.i64 x.day), C.d (D.int IntKind.i64 x.st), C.d (D.int IntKind.i64 x.item)]), (17, T.val (D.bool (decide (↑k < (0 : Int))))), (36, T.val (D.bool (x.st != (1 : Int) && x.st != (3 : Int) && x.st != (5 : Int)))), (43, T.val (D.bool (decide (it < (1 : Int)) || decide ((9999 : Int) < it)))), (47, T.val (D.bool (hasIt s.iss it))), (50, T.val (D.int IntKind.i64 ↑k)), (53, T.val (D.agg [D.int IntKind.i64 x.vol, D.int IntKind.i64 x.num, D.int IntKind.i64 x.last, D.int IntKind.i64 x.day, D.int IntKind.i64 (2 : Int), D.int IntKind.i64 it]))] ?_ fun h_2_4 => ?_
            · skip
              refine coreS.step E_ok [0] (by kernel_rfl) (by simp) ?_
              refine anyS.cons rfl ?_ ?_
              · skip
                simp [encSer_eq, encIsss_eq, encIss_eq, e, hx, hk, hxy]
                try simp (disch := omega) only [wrap_i64]
                repeat refine ⟨by first | omega | assumption | (simp only [maxLen]; omega) | (intros; omega) | decide, ?_⟩
                exact contS.mk (by simp [Weak, TW, T.plain, encSer_eq, encIsss_eq, encIss_eq]) h_0_2_4 (by kernel_rfl)
              exact anyS.nil
            refine contS.cut 5 #[true, true, false, true, false, false, false, false] [(0, T.val (D.agg [D.int IntKind.i64 s.rcd, D.int IntKind.i64 s.pat.start, D.int IntKind.i64 s.pat.every, D.int IntKind.i64 s.pat.per, D.int IntKind.i64 s.pat.first, encInts s.pat.skip, encInts s.pat.dbl, D.int IntKind.i64 s.next, (D.agg [D.int IntKind.i64 zIss.vol, D.int IntKind.i64 zIss.num, D.int IntKind.i64 zIss.last, D.int IntKind.i64 zIss.day, D.int IntKind.i64 zIss.st, D.int IntKind.i64 zIss.item]).slice (List.map encIss s.iss)])), (1, T.val (D.int IntKind.i64 v)), (2, T.val (D.int IntKind.i64 n)), (3, T.val (D.int IntKind.i64 it)), (4, T.box [C.d (D.int IntKind.i64 s.rcd), C.d (D.int IntKind.i64 s.pat.start), C.d (D.int IntKind.i64 s.pat.every), C.d (D.int IntKind.i64 s.pat.per), C.d (D.int IntKind.i64 s.pat.first), C.d (encInts s.pat.skip), C.d (encInts s.pat.dbl), C.d (D.int IntKind.i64 s.next), C.d ((D.agg [D.int IntKind.i64 zIss.vol, D.int IntKind.i64 zIss.num, D.int IntKind.i64 zIss.last, D.int IntKind.i64 zIss.day, D.int IntKind.i64 zIss.st, D.int IntKind.i64 zIss.item]).slice (List.map encIss s.iss))]), (8, T.box [C.d (D.int IntKind.i64 (0 : Int)), C.d (D.int IntKind.i64 (0 : Int)), C.d (D.int IntKind.i64 (0 : Int)), C.d (D.int IntKind.i64 (0 : Int)), C.d (D.int IntKind.i64 (0 : Int)), C.d ((D.int IntKind.i64 (0 : Int)).slice []), C.d ((D.int IntKind.i64 (0 : Int)).slice []), C.d (D.int IntKind.i64 (0 : Int)), C.d ((D.agg [D.int IntKind.i64 (0 : Int), D.int IntKind.i64 (0 : Int), D.int IntKind.i64 (0 : Int), D.int IntKind.i64 (0 : Int), D.int IntKind.i64 (0 : Int), D.int IntKind.i64 (0 : Int)]).slice [])]), (9, T.val (D.int IntKind.i64 (0 : Int))), (10, T.val (D.int IntKind.i64 ↑k)), (11, T.box [C.d (D.int IntKind.i64 x.vol), C.d (D.int IntKind.i64 x.num), C.d (D.int IntKind.i64 x.last), C.d (D.int IntKind.i64 x.day), C.d (D.int IntKind.i64 x.st), C.d (D.int IntKind.i64 x.item)]), (17, T.val (D.bool (decide (↑k < (0 : Int))))), (36, T.val (D.bool (x.st != (1 : Int) && x.st != (3 : Int) && x.st != (5 : Int)))), (43, T.val (D.bool (decide (it < (1 : Int)) || decide ((9999 : Int) < it)))), (47, T.val (D.bool (hasIt s.iss it))), (49, T.val (D.agg [D.int IntKind.i64 s.rcd, D.int IntKind.i64 s.pat.start, D.int IntKind.i64 s.pat.every, D.int IntKind.i64 s.pat.per, D.int IntKind.i64 s.pat.first, encInts s.pat.skip, encInts s.pat.dbl, D.int IntKind.i64 s.next, (D.agg [D.int IntKind.i64 zIss.vol, D.int IntKind.i64 zIss.num, D.int IntKind.i64 zIss.last, D.int IntKind.i64 zIss.day, D.int IntKind.i64 zIss.st, D.int IntKind.i64 zIss.item]).slice (List.map encIss s.iss)])), (50, T.val (D.int IntKind.i64 ↑k)), (52, T.val (D.int IntKind.i64 it))] ?_ fun h_0 => ?_
            · skip
              refine coreS.step E_ok [2] (by kernel_rfl) (by simp) ?_
              refine anyS.cons rfl ?_ ?_
              · skip
                simp [encSer_eq, encIsss_eq, encIss_eq, e, hx, hk, hxy]
                try simp (disch := omega) only [wrap_i64]
                repeat refine ⟨by first | omega | assumption | (simp only [maxLen]; omega) | (intros; omega) | decide, ?_⟩
                exact contS.mk (by simp [Weak, TW, T.plain, encSer_eq, encIsss_eq, encIss_eq]) h_0_2 (by kernel_rfl)
              exact anyS.nil
            refine contS.cut 5 #[false, true, true, true, false, false, false, false] [(0, T.val (D.agg [D.int IntKind.i64 s.rcd, D.int IntKind.i64 s.pat.start, D.int IntKind.i64 s.pat.every, D.int IntKind.i64 s.pat.per, D.int IntKind.i64 s.pat.first, encInts s.pat.skip, encInts s.pat.dbl, D.int IntKind.i64 s.next, (D.agg [D.int IntKind.i64 zIss.vol, D.int IntKind.i64 zIss.num, D.int IntKind.i64 zIss.last, D.int IntKind.i64 zIss.day, D.int IntKind.i64 zIss.st, D.int IntKind.i64 zIss.item]).slice (List.map encIss s.iss)])), (1, T.val (D.int IntKind.i64 v)), (2, T.val (D.int IntKind.i64 n)), (3, T.val (D.int IntKind.i64 it)), (4, T.box [C.d (D.int IntKind.i64 s.rcd), C.d (D.int IntKind.i64 s.pat.start), C.d (D.int IntKind.i64 s.pat.every), C.d (D.int IntKind.i64 s.pat.per), C.d (D.int IntKind.i64 s.pat.first), C.d (encInts s.pat.skip), C.d (encInts s.pat.dbl), C.d (D.int IntKind.i64 s.next), C.d ((D.agg [D.int IntKind.i64 zIss.vol, D.int IntKind.i64 zIss.num, D.int IntKind.i64 zIss.last, D.int IntKind.i64 zIss.day, D.int IntKind.i64 zIss.st, D.int IntKind.i64 zIss.item]).slice (List.map encIss s.iss))]), (8, T.box [C.d (D.int IntKind.i64 (0 : Int)), C.d (D.int IntKind.i64 (0 : Int)), C.d (D.int IntKind.i64 (0 : Int)), C.d (D.int IntKind.i64 (0 : Int)), C.d (D.int IntKind.i64 (0 : Int)), C.d ((D.int IntKind.i64 (0 : Int)).slice []), C.d ((D.int IntKind.i64 (0 : Int)).slice []), C.d (D.int IntKind.i64 (0 : Int)), C.d ((D.agg [D.int IntKind.i64 (0 : Int), D.int IntKind.i64 (0 : Int), D.int IntKind.i64 (0 : Int), D.int IntKind.i64 (0 : Int), D.int IntKind.i64 (0 : Int), D.int IntKind.i64 (0 : Int)]).slice [])]), (9, T.val (D.int IntKind.i64 (0 : Int))), (10, T.val (D.int IntKind.i64 ↑k)), (11, T.box [C.d (D.int IntKind.i64 x.vol), C.d (D.int IntKind.i64 x.num), C.d (D.int IntKind.i64 x.last), C.d (D.int IntKind.i64 x.day), C.d (D.int IntKind.i64 x.st), C.d (D.int IntKind.i64 x.item)]), (17, T.val (D.bool (decide (↑k < (0 : Int))))), (36, T.val (D.bool (x.st != (1 : Int) && x.st != (3 : Int) && x.st != (5 : Int)))), (43, T.val (D.bool (decide (it < (1 : Int)) || decide ((9999 : Int) < it)))), (47, T.val (D.bool (hasIt s.iss it))), (50, T.val (D.int IntKind.i64 ↑k)), (51, T.val (D.agg [D.int IntKind.i64 x.vol, D.int IntKind.i64 x.num, D.int IntKind.i64 x.last, D.int IntKind.i64 x.day, D.int IntKind.i64 x.st, D.int IntKind.i64 x.item])), (52, T.val (D.int IntKind.i64 it))] ?_ fun h_2 => ?_
            · skip
              refine coreS.step E_ok [0, 4] (by kernel_rfl) (by simp) ?_
              refine anyS.cons rfl ?_ ?_
              · skip
                simp [encSer_eq, encIsss_eq, encIss_eq, e, hx, hk, hxy]
                try simp (disch := omega) only [wrap_i64]
                repeat refine ⟨by first | omega | assumption | (simp only [maxLen]; omega) | (intros; omega) | decide, ?_⟩
                exact contS.mk (by simp [Weak, TW, T.plain, encSer_eq, encIsss_eq, encIss_eq]) h_0_2 (by kernel_rfl)
              refine anyS.cons rfl ?_ ?_
              · skip
                simp [encSer_eq, encIsss_eq, encIss_eq, e, hx, hk, hxy]
                try simp (disch := omega) only [wrap_i64]
                repeat refine ⟨by first | omega | assumption | (simp only [maxLen]; omega) | (intros; omega) | decide, ?_⟩
                refine meet.of (ref37_changed x 2 it) ?_
                simp [encSer_eq, encIsss_eq, encIss_eq, e, hx, hk, hxy]
                try simp (disch := omega) only [wrap_i64]
                repeat refine ⟨by first | omega | assumption | (simp only [maxLen]; omega) | (intros; omega) | decide, ?_⟩
                exact contS.mk (by simp [Weak, TW, T.plain, encSer_eq, encIsss_eq, encIss_eq]) h_2_4 (by kernel_rfl)
              exact anyS.nil
            refine contS.cut 6 #[false, true, false, true, false, false, false, false] [(0, T.val (D.agg [D.int IntKind.i64 s.rcd, D.int IntKind.i64 s.pat.start, D.int IntKind.i64 s.pat.every, D.int IntKind.i64 s.pat.per, D.int IntKind.i64 s.pat.first, encInts s.pat.skip, encInts s.pat.dbl, D.int IntKind.i64 s.next, (D.agg [D.int IntKind.i64 zIss.vol, D.int IntKind.i64 zIss.num, D.int IntKind.i64 zIss.last, D.int IntKind.i64 zIss.day, D.int IntKind.i64 zIss.st, D.int IntKind.i64 zIss.item]).slice (List.map encIss s.iss)])), (1, T.val (D.int IntKind.i64 v)), (2, T.val (D.int IntKind.i64 n)), (3, T.val (D.int IntKind.i64 it)), (4, T.box [C.d (D.int IntKind.i64 s.rcd), C.d (D.int IntKind.i64 s.pat.start), C.d (D.int IntKind.i64 s.pat.every), C.d (D.int IntKind.i64 s.pat.per), C.d (D.int IntKind.i64 s.pat.first), C.d (encInts s.pat.skip), C.d (encInts s.pat.dbl), C.d (D.int IntKind.i64 s.next), C.d ((D.agg [D.int IntKind.i64 zIss.vol, D.int IntKind.i64 zIss.num, D.int IntKind.i64 zIss.last, D.int IntKind.i64 zIss.day, D.int IntKind.i64 zIss.st, D.int IntKind.i64 zIss.item]).slice (List.map encIss s.iss))]), (8, T.box [C.d (D.int IntKind.i64 (0 : Int)), C.d (D.int IntKind.i64 (0 : Int)), C.d (D.int IntKind.i64 (0 : Int)), C.d (D.int IntKind.i64 (0 : Int)), C.d (D.int IntKind.i64 (0 : Int)), C.d ((D.int IntKind.i64 (0 : Int)).slice []), C.d ((D.int IntKind.i64 (0 : Int)).slice []), C.d (D.int IntKind.i64 (0 : Int)), C.d ((D.agg [D.int IntKind.i64 (0 : Int), D.int IntKind.i64 (0 : Int), D.int IntKind.i64 (0 : Int), D.int IntKind.i64 (0 : Int), D.int IntKind.i64 (0 : Int), D.int IntKind.i64 (0 : Int)]).slice [])]), (9, T.val (D.int IntKind.i64 (0 : Int))), (10, T.val (D.int IntKind.i64 ↑k)), (11, T.box [C.d (D.int IntKind.i64 x.vol), C.d (D.int IntKind.i64 x.num), C.d (D.int IntKind.i64 x.last), C.d (D.int IntKind.i64 x.day), C.d (D.int IntKind.i64 x.st), C.d (D.int IntKind.i64 x.item)]), (17, T.val (D.bool (decide (↑k < (0 : Int))))), (36, T.val (D.bool (x.st != (1 : Int) && x.st != (3 : Int) && x.st != (5 : Int)))), (43, T.val (D.bool (decide (it < (1 : Int)) || decide ((9999 : Int) < it)))), (47, T.val (D.bool (hasIt s.iss it))), (50, T.val (D.int IntKind.i64 ↑k)), (52, T.val (D.int IntKind.i64 it))] ?_ fun h_ => ?_
            · skip
              refine coreS.step E_ok [0, 2] (by kernel_rfl) (by simp) ?_
              refine anyS.cons rfl ?_ ?_
              · skip
                simp [encSer_eq, encIsss_eq, encIss_eq, e, hx, hk, hxy]
                try simp (disch := omega) only [wrap_i64]
                repeat refine ⟨by first | omega | assumption | (simp only [maxLen]; omega) | (intros; omega) | decide, ?_⟩
                exact contS.mk (by simp [Weak, TW, T.plain, encSer_eq, encIsss_eq, encIss_eq]) h_0 (by kernel_rfl)
              refine anyS.cons rfl ?_ ?_
              · skip
                simp [encSer_eq, encIsss_eq, encIss_eq, e, hx, hk, hxy]
                try simp (disch := omega) only [wrap_i64]
                repeat refine ⟨by first | omega | assumption | (simp only [maxLen]; omega) | (intros; omega) | decide, ?_⟩
                exact contS.mk (by simp [Weak, TW, T.plain, encSer_eq, encIsss_eq, encIss_eq]) h_2 (by kernel_rfl)
              exact anyS.nil
            refine contS.now (f' := 8) (l' := #[false, false, false, false, false, false, false, false]) ?_ rfl (by kernel_rfl)
            refine coreS.dry E_ok (by kernel_rfl) 1 rfl rfl (by kernel_rfl) (by kernel_rfl) ?_
            simp [encSer_eq, encIsss_eq, encIss_eq, e, hx, hk, hxy]
            try simp (disch := omega) only [wrap_i64]
            repeat refine ⟨by first | omega | assumption | (simp only [maxLen]; omega) | (intros; omega) | decide, ?_⟩
            refine contS.now (f' := 7) (l' := #[false, true, false, false, false, false, false, false]) ?_ rfl (by kernel_rfl)
            refine coreS.dry E_ok (by kernel_rfl) 3 rfl rfl (by kernel_rfl) (by kernel_rfl) ?_
            simp [encSer_eq, encIsss_eq, encIss_eq, e, hx, hk, hxy]
            try simp (disch := omega) only [wrap_i64]
            repeat refine ⟨by first | omega | assumption | (simp only [maxLen]; omega) | (intros; omega) | decide, ?_⟩
            exact contS.mk (by simp [Weak, TW, T.plain, encSer_eq, encIsss_eq, encIss_eq]) h_ (by kernel_rfl)
          refine hK _ ?_
          clear hK K
          refine AWp.ret ?_
          repeat first | refine thenN ?_ | refine thenX ?_ | refine thenR ?_ | refine blockN ?_ | refine blockR ?_ | refine blockX ?_ | refine blockM rfl ?_
          simp [RetOk, RV, RVs, hb, zSer, zPat, encSer_eq, encInts_eq, encIsss_eq, encIss_eq, zIss, hnx]
end Go.Proofs.Ytceapemkefaicaa

set_option maxRecDepth 100000
set_option linter.unusedSimpArgs false
set_option linter.unusedVariables false
namespace Go.Proofs.Ytceapemkefaicaa
open Go Ab Pl
set_option maxHeartbeats 4000000 in
theorem ref37_Miss (s : Ser) (v n : Int) (hl : s.iss.length ≤ 1000) (hnx : s.next = (s.iss.length : Int)) (h0 : ∀ x ∈ s.iss, x.st = 1 ∨ x.st = 3 → x.item = 0) : ACalls E.P 27 [encSer s, .int .i64 v, .int .i64 n] (.tup [encSer (missR s v n).1, .int .i64 (missR s v n).2]) := by
  refine ACalls.intro E_ok Try.func27 rfl rfl Try.ntmps27 Try.results27 (Nat.le_of_ble_eq_true rfl) fun hok base S0 w0 => ?_
  have hf := fndR_rng s.iss v n
  -- region 0
  refine AWp.rseq E_ok [0, 1, 2, 3, 6, 7, 8, 9, 15, 29] fun K hK => ?_
  simp [encSer_eq, encIsss_eq, encIss_eq]
  try simp (disch := omega) only [wrap_i64]
  repeat refine ⟨by first | omega | assumption | (simp only [maxLen]; omega) | (intros; omega) | decide, ?_⟩
  refine hK _ ?_
  clear hK K
  -- region 1
  refine AWp.rseq E_ok [0, 1, 2, 3, 6, 7, 8, 9, 15, 29] fun K hK => ?_
  simp [encSer_eq, encIsss_eq, encIss_eq]
  try simp (disch := omega) only [wrap_i64]
  repeat refine ⟨by first | omega | assumption | (simp only [maxLen]; omega) | (intros; omega) | decide, ?_⟩
  refine meet.of (ref37_find s v n (by omega)) ?_
  simp [encSer_eq, encIsss_eq, encIss_eq]
  try simp (disch := omega) only [wrap_i64]
  repeat refine ⟨by first | omega | assumption | (simp only [maxLen]; omega) | (intros; omega) | decide, ?_⟩
  refine hK _ ?_
  clear hK K
  refine AWp.seq ?_
  -- region 2
  refine AWp.rseq E_ok [0, 1, 2, 3, 6, 7, 8, 9, 15, 29] fun K hK => ?_
  simp [encSer_eq, encIsss_eq, encIss_eq]
  try simp (disch := omega) only [wrap_i64]
  repeat refine ⟨by first | omega | assumption | (simp only [maxLen]; omega) | (intros; omega) | decide, ?_⟩
  refine hK _ ?_
  clear hK K
  refine AWp.cond rfl (fun h15 => ?_) (fun h15 => ?_)
  · try simp at h15
    have hb := miss_none (show fndR s.iss v n < 0 by omega)
    -- region 3
    refine AWp.rseq E_ok [0, 1, 2, 3, 6, 7, 8, 9, 15, 29] fun K hK => ?_
    simp [encSer_eq, encIsss_eq, encIss_eq]
    try simp (disch := omega) only [wrap_i64]
    repeat refine ⟨by first | omega | assumption | (simp only [maxLen]; omega) | (intros; omega) | decide, ?_⟩
    refine hK _ ?_
    clear hK K
    refine AWp.ret ?_
    repeat first | refine thenN ?_ | refine thenX ?_ | refine thenR ?_ | refine blockN ?_ | refine blockR ?_ | refine blockX ?_ | refine blockM rfl ?_
    simp [RetOk, RV, RVs, hb, zSer, zPat, encSer_eq, encInts_eq, encIsss_eq, encIss_eq, zIss, hnx]
  · try simp at h15
    obtain ⟨k, x, e, hk, hx, hg, hnum⟩ := fndR_at (l := s.iss) (v := v) (n := n) (by omega)
    have hb := miss_at e hg
    have hxy : s.iss[k]'hk = x := (List.getElem?_eq_some_iff.1 hx).2
    have hx0 := h0 x (List.mem_of_getElem? hx)
    refine AWp.skip ?_
    repeat first | refine thenN ?_ | refine thenX ?_ | refine thenR ?_ | refine blockN ?_ | refine blockR ?_ | refine blockX ?_ | refine blockM rfl ?_
    -- region 4
    refine AWp.rseq E_ok [0, 1, 2, 3, 6, 7, 8, 9, 15, 29] fun K hK => ?_
    simp [encSer_eq, encIsss_eq, encIss_eq, e, hx, hk, hxy]
    try simp (disch := omega) only [wrap_i64]
    repeat refine ⟨by first | omega | assumption | (simp only [maxLen]; omega) | (intros; omega) | decide, ?_⟩
    refine hK _ ?_
    clear hK K
    refine AWp.seq ?_
    -- region 5
    refine AWp.rseq E_ok [0, 1, 2, 3, 6, 7, 8, 9, 15, 29] fun K hK => ?_
    simp [encSer_eq, encIsss_eq, encIss_eq, e, hx, hk, hxy]
    try simp (disch := omega) only [wrap_i64]
    repeat refine ⟨by first | omega | assumption | (simp only [maxLen]; omega) | (intros; omega) | decide, ?_⟩
    refine hK _ ?_
    clear hK K
    refine AWp.cond rfl (fun h29 => ?_) (fun h29 => ?_)
    · try simp at h29
      rw [if_pos (by omega)] at hb
      -- region 6
      refine AWp.rseq E_ok [0, 1, 2, 3, 6, 7, 8, 9, 15, 29] fun K hK => ?_
      simp [encSer_eq, encIsss_eq, encIss_eq, e, hx, hk, hxy]
      try simp (disch := omega) only [wrap_i64]
      repeat refine ⟨by first | omega | assumption | (simp only [maxLen]; omega) | (intros; omega) | decide, ?_⟩
      refine hK _ ?_
      clear hK K
      refine AWp.ret ?_
      repeat first | refine thenN ?_ | refine thenX ?_ | refine thenR ?_ | refine blockN ?_ | refine blockR ?_ | refine blockX ?_ | refine blockM rfl ?_
      simp [RetOk, RV, RVs, hb, zSer, zPat, encSer_eq, encInts_eq, encIsss_eq, encIss_eq, zIss, hnx]
    · try simp at h29
      rw [if_neg (by omega)] at hb
      have hxi : x.item = 0 := hx0 (by omega)
      rw [hxi] at hb
      refine AWp.skip ?_
      repeat first | refine thenN ?_ | refine thenX ?_ | refine thenR ?_ | refine blockN ?_ | refine blockR ?_ | refine blockX ?_ | refine blockM rfl ?_
      -- region 7, every order
      refine AWp.rseqS E_ok mixed [0, 1, 2, 3, 6, 7, 8, 9, 15, 29] (n := 7) (l := #[false, false, false, false, false, false, false]) rfl (by kernel_rfl) fun K hK => ?_
      suffices hnext : K [(0, T.val (D.agg [D.int IntKind.i64 s.rcd, D.int IntKind.i64 s.pat.start, D.int IntKind.i64 s.pat.every, D.int IntKind.i64 s.pat.per, D.int IntKind.i64 s.pat.first, encInts s.pat.skip, encInts s.pat.dbl, D.int IntKind.i64 s.next, (D.agg [D.int IntKind.i64 zIss.vol, D.int IntKind.i64 zIss.num, D.int IntKind.i64 zIss.last, D.int IntKind.i64 zIss.day, D.int IntKind.i64 zIss.st, D.int IntKind.i64 zIss.item]).slice (List.map encIss s.iss)])), (1, T.val (D.int IntKind.i64 v)), (2, T.val (D.int IntKind.i64 n)), (3, T.box [C.d (D.int IntKind.i64 s.rcd), C.d (D.int IntKind.i64 s.pat.start), C.d (D.int IntKind.i64 s.pat.every), C.d (D.int IntKind.i64 s.pat.per), C.d (D.int IntKind.i64 s.pat.first), C.d (encInts s.pat.skip), C.d (encInts s.pat.dbl), C.d (D.int IntKind.i64 s.next), C.d ((D.agg [D.int IntKind.i64 zIss.vol, D.int IntKind.i64 zIss.num, D.int IntKind.i64 zIss.last, D.int IntKind.i64 zIss.day, D.int IntKind.i64 zIss.st, D.int IntKind.i64 zIss.item]).slice (List.map encIss s.iss))]), (6, T.box [C.d (D.int IntKind.i64 s.rcd), C.d (D.int IntKind.i64 s.pat.start), C.d (D.int IntKind.i64 s.pat.every), C.d (D.int IntKind.i64 s.pat.per), C.d (D.int IntKind.i64 s.pat.first), C.d (encInts s.pat.skip), C.d (encInts s.pat.dbl), C.d (D.int IntKind.i64 ↑s.iss.length), C.d ((D.agg [D.int IntKind.i64 zIss.vol, D.int IntKind.i64 zIss.num, D.int IntKind.i64 zIss.last, D.int IntKind.i64 zIss.day, D.int IntKind.i64 zIss.st, D.int IntKind.i64 zIss.item]).slice ((List.map encIss s.iss).set k (D.agg [D.int IntKind.i64 x.vol, D.int IntKind.i64 x.num, D.int IntKind.i64 x.last, D.int IntKind.i64 x.day, D.int IntKind.i64 (5 : Int), D.int IntKind.i64 (0 : Int)])))]), (7, T.val (D.int IntKind.i64 (0 : Int))), (8, T.val (D.int IntKind.i64 ↑k)), (9, T.box [C.d (D.int IntKind.i64 x.vol), C.d (D.int IntKind.i64 x.num), C.d (D.int IntKind.i64 x.last), C.d (D.int IntKind.i64 x.day), C.d (D.int IntKind.i64 x.st), C.d (D.int IntKind.i64 x.item)]), (15, T.val (D.bool (decide (↑k < (0 : Int))))), (29, T.val (D.bool (x.st != (1 : Int) && x.st != (3 : Int))))] by
        refine contS.cut 0 #[true, true, true, true, true, true, true] [(0, T.val (D.agg [D.int IntKind.i64 s.rcd, D.int IntKind.i64 s.pat.start, D.int IntKind.i64 s.pat.every, D.int IntKind.i64 s.pat.per, D.int IntKind.i64 s.pat.first, encInts s.pat.skip, encInts s.pat.dbl, D.int IntKind.i64 s.next, (D.agg [D.int IntKind.i64 zIss.vol, D.int IntKind.i64 zIss.num, D.int IntKind.i64 zIss.last, D.int IntKind.i64 zIss.day, D.int IntKind.i64 zIss.st, D.int IntKind.i64 zIss.item]).slice (List.map encIss s.iss)])), (1, T.val (D.int IntKind.i64 v)), (2, T.val (D.int IntKind.i64 n)), (3, T.box [C.d (D.int IntKind.i64 s.rcd), C.d (D.int IntKind.i64 s.pat.start), C.d (D.int IntKind.i64 s.pat.every), C.d (D.int IntKind.i64 s.pat.per), C.d (D.int IntKind.i64 s.pat.first), C.d (encInts s.pat.skip), C.d (encInts s.pat.dbl), C.d (D.int IntKind.i64 s.next), C.d ((D.agg [D.int IntKind.i64 zIss.vol, D.int IntKind.i64 zIss.num, D.int IntKind.i64 zIss.last, D.int IntKind.i64 zIss.day, D.int IntKind.i64 zIss.st, D.int IntKind.i64 zIss.item]).slice (List.map encIss s.iss))]), (6, T.box [C.d (D.int IntKind.i64 s.rcd), C.d (D.int IntKind.i64 s.pat.start), C.d (D.int IntKind.i64 s.pat.every), C.d (D.int IntKind.i64 s.pat.per), C.d (D.int IntKind.i64 s.pat.first), C.d (encInts s.pat.skip), C.d (encInts s.pat.dbl), C.d (D.int IntKind.i64 ↑s.iss.length), C.d ((D.agg [D.int IntKind.i64 zIss.vol, D.int IntKind.i64 zIss.num, D.int IntKind.i64 zIss.last, D.int IntKind.i64 zIss.day, D.int IntKind.i64 zIss.st, D.int IntKind.i64 zIss.item]).slice ((List.map encIss s.iss).set k (D.agg [D.int IntKind.i64 x.vol, D.int IntKind.i64 x.num, D.int IntKind.i64 x.last, D.int IntKind.i64 x.day, D.int IntKind.i64 (5 : Int), D.int IntKind.i64 (0 : Int)])))]), (7, T.val (D.int IntKind.i64 (0 : Int))), (8, T.val (D.int IntKind.i64 ↑k)), (9, T.box [C.d (D.int IntKind.i64 x.vol), C.d (D.int IntKind.i64 x.num), C.d (D.int IntKind.i64 x.last), C.d (D.int IntKind.i64 x.day), C.d (D.int IntKind.i64 x.st), C.d (D.int IntKind.i64 x.item)]), (15, T.val (D.bool (decide (↑k < (0 : Int))))), (29, T.val (D.bool (x.st != (1 : Int) && x.st != (3 : Int))))] ?_ fun h_0_2_3_4_5_ => ?_
        · skip
          refine coreS.nil (by kernel_rfl) ?_
          simpa [encSer_eq, encIsss_eq, encIss_eq] using hnext
        refine contS.cut 2 #[true, true, true, true, true, false, false] [(0, T.val (D.agg [D.int IntKind.i64 s.rcd, D.int IntKind.i64 s.pat.start, D.int IntKind.i64 s.pat.every, D.int IntKind.i64 s.pat.per, D.int IntKind.i64 s.pat.first, encInts s.pat.skip, encInts s.pat.dbl, D.int IntKind.i64 s.next, (D.agg [D.int IntKind.i64 zIss.vol, D.int IntKind.i64 zIss.num, D.int IntKind.i64 zIss.last, D.int IntKind.i64 zIss.day, D.int IntKind.i64 zIss.st, D.int IntKind.i64 zIss.item]).slice (List.map encIss s.iss)])), (1, T.val (D.int IntKind.i64 v)), (2, T.val (D.int IntKind.i64 n)), (3, T.box [C.d (D.int IntKind.i64 s.rcd), C.d (D.int IntKind.i64 s.pat.start), C.d (D.int IntKind.i64 s.pat.every), C.d (D.int IntKind.i64 s.pat.per), C.d (D.int IntKind.i64 s.pat.first), C.d (encInts s.pat.skip), C.d (encInts s.pat.dbl), C.d (D.int IntKind.i64 s.next), C.d ((D.agg [D.int IntKind.i64 zIss.vol, D.int IntKind.i64 zIss.num, D.int IntKind.i64 zIss.last, D.int IntKind.i64 zIss.day, D.int IntKind.i64 zIss.st, D.int IntKind.i64 zIss.item]).slice (List.map encIss s.iss))]), (6, T.box [C.d (D.int IntKind.i64 (0 : Int)), C.d (D.int IntKind.i64 (0 : Int)), C.d (D.int IntKind.i64 (0 : Int)), C.d (D.int IntKind.i64 (0 : Int)), C.d (D.int IntKind.i64 (0 : Int)), C.d ((D.int IntKind.i64 (0 : Int)).slice []), C.d ((D.int IntKind.i64 (0 : Int)).slice []), C.d (D.int IntKind.i64 (0 : Int)), C.d ((D.agg [D.int IntKind.i64 (0 : Int), D.int IntKind.i64 (0 : Int), D.int IntKind.i64 (0 : Int), D.int IntKind.i64 (0 : Int), D.int IntKind.i64 (0 : Int), D.int IntKind.i64 (0 : Int)]).slice [])]), (7, T.val (D.int IntKind.i64 (0 : Int))), (8, T.val (D.int IntKind.i64 ↑k)), (9, T.box [C.d (D.int IntKind.i64 x.vol), C.d (D.int IntKind.i64 x.num), C.d (D.int IntKind.i64 x.last), C.d (D.int IntKind.i64 x.day), C.d (D.int IntKind.i64 x.st), C.d (D.int IntKind.i64 x.item)]), (15, T.val (D.bool (decide (↑k < (0 : Int))))), (29, T.val (D.bool (x.st != (1 : Int) && x.st != (3 : Int)))), (35, T.val (D.agg [D.int IntKind.i64 s.rcd, D.int IntKind.i64 s.pat.start, D.int IntKind.i64 s.pat.every, D.int IntKind.i64 s.pat.per, D.int IntKind.i64 s.pat.first, encInts s.pat.skip, encInts s.pat.dbl, D.int IntKind.i64 ↑s.iss.length, (D.agg [D.int IntKind.i64 zIss.vol, D.int IntKind.i64 zIss.num, D.int IntKind.i64 zIss.last, D.int IntKind.i64 zIss.day, D.int IntKind.i64 zIss.st, D.int IntKind.i64 zIss.item]).slice ((List.map encIss s.iss).set k (D.agg [D.int IntKind.i64 x.vol, D.int IntKind.i64 x.num, D.int IntKind.i64 x.last, D.int IntKind.i64 x.day, D.int IntKind.i64 (5 : Int), D.int IntKind.i64 (0 : Int)]))]))] ?_ fun h_0_2_3_4 => ?_
        · skip
          refine coreS.step E_ok [5] (by kernel_rfl) (by simp) ?_
          refine anyS.cons rfl ?_ ?_
          · skip
            simp [encSer_eq, encIsss_eq, encIss_eq, e, hx, hk, hxy]
            try simp (disch := omega) only [wrap_i64]
            repeat refine ⟨by first | omega | assumption | (simp only [maxLen]; omega) | (intros; omega) | decide, ?_⟩
            refine contS.now (f' := 1) (l' := #[true, true, true, true, true, true, false]) ?_ rfl (by kernel_rfl)
            refine coreS.dry E_ok (by kernel_rfl) 6 rfl rfl (by kernel_rfl) (by kernel_rfl) ?_
            simp [encSer_eq, encIsss_eq, encIss_eq, e, hx, hk, hxy]
            try simp (disch := omega) only [wrap_i64]
            repeat refine ⟨by first | omega | assumption | (simp only [maxLen]; omega) | (intros; omega) | decide, ?_⟩
            exact contS.mk (by simp [Weak, TW, T.plain, encSer_eq, encIsss_eq, encIss_eq]) h_0_2_3_4_5_ (by kernel_rfl)
          exact anyS.nil
        refine contS.cut 3 #[true, true, true, true, false, false, false] [(0, T.val (D.agg [D.int IntKind.i64 s.rcd, D.int IntKind.i64 s.pat.start, D.int IntKind.i64 s.pat.every, D.int IntKind.i64 s.pat.per, D.int IntKind.i64 s.pat.first, encInts s.pat.skip, encInts s.pat.dbl, D.int IntKind.i64 s.next, (D.agg [D.int IntKind.i64 zIss.vol, D.int IntKind.i64 zIss.num, D.int IntKind.i64 zIss.last, D.int IntKind.i64 zIss.day, D.int IntKind.i64 zIss.st, D.int IntKind.i64 zIss.item]).slice (List.map encIss s.iss)])), (1, T.val (D.int IntKind.i64 v)), (2, T.val (D.int IntKind.i64 n)), (3, T.box [C.d (D.int IntKind.i64 s.rcd), C.d (D.int IntKind.i64 s.pat.start), C.d (D.int IntKind.i64 s.pat.every), C.d (D.int IntKind.i64 s.pat.per), C.d (D.int IntKind.i64 s.pat.first), C.d (encInts s.pat.skip), C.d (encInts s.pat.dbl), C.d (D.int IntKind.i64 s.next), C.d ((D.agg [D.int IntKind.i64 zIss.vol, D.int IntKind.i64 zIss.num, D.int IntKind.i64 zIss.last, D.int IntKind.i64 zIss.day, D.int IntKind.i64 zIss.st, D.int IntKind.i64 zIss.item]).slice (List.map encIss s.iss))]), (6, T.box [C.d (D.int IntKind.i64 (0 : Int)), C.d (D.int IntKind.i64 (0 : Int)), C.d (D.int IntKind.i64 (0 : Int)), C.d (D.int IntKind.i64 (0 : Int)), C.d (D.int IntKind.i64 (0 : Int)), C.d ((D.int IntKind.i64 (0 : Int)).slice []), C.d ((D.int IntKind.i64 (0 : Int)).slice []), C.d (D.int IntKind.i64 (0 : Int)), C.d ((D.agg [D.int IntKind.i64 (0 : Int), D.int IntKind.i64 (0 : Int), D.int IntKind.i64 (0 : Int), D.int IntKind.i64 (0 : Int), D.int IntKind.i64 (0 : Int), D.int IntKind.i64 (0 : Int)]).slice [])]), (7, T.val (D.int IntKind.i64 (0 : Int))), (8, T.val (D.int IntKind.i64 ↑k)), (9, T.box [C.d (D.int IntKind.i64 x.vol), C.d (D.int IntKind.i64 x.num), C.d (D.int IntKind.i64 x.last), C.d (D.int IntKind.i64 x.day), C.d (D.int IntKind.i64 x.st), C.d (D.int IntKind.i64 x.item)]), (15, T.val (D.bool (decide (↑k < (0 : Int))))), (29, T.val (D.bool (x.st != (1 : Int) && x.st != (3 : Int)))), (31, T.val (D.agg [D.int IntKind.i64 s.rcd, D.int IntKind.i64 s.pat.start, D.int IntKind.i64 s.pat.every, D.int IntKind.i64 s.pat.per, D.int IntKind.i64 s.pat.first, encInts s.pat.skip, encInts s.pat.dbl, D.int IntKind.i64 s.next, (D.agg [D.int IntKind.i64 zIss.vol, D.int IntKind.i64 zIss.num, D.int IntKind.i64 zIss.last, D.int IntKind.i64 zIss.day, D.int IntKind.i64 zIss.st, D.int IntKind.i64 zIss.item]).slice (List.map encIss s.iss)])), (32, T.val (D.int IntKind.i64 ↑k)), (34, T.val (D.agg [D.int IntKind.i64 x.vol, D.int IntKind.i64 x.num, D.int IntKind.i64 x.last, D.int IntKind.i64 x.day, D.int IntKind.i64 (5 : Int), D.int IntKind.i64 (0 : Int)]))] ?_ fun h_0_2_3 => ?_
        · skip
          refine coreS.step E_ok [4] (by kernel_rfl) (by simp) ?_
          refine anyS.cons rfl ?_ ?_
          · skip
            simp [encSer_eq, encIsss_eq, encIss_eq, e, hx, hk, hxy]
            try simp (disch := omega) only [wrap_i64]
            repeat refine ⟨by first | omega | assumption | (simp only [maxLen]; omega) | (intros; omega) | decide, ?_⟩
            refine meet.of (ref37_put s k { x with st := 5, item := 0 } hk (by omega)) ?_
            simp [encSer_eq, encIsss_eq, encIss_eq, e, hx, hk, hxy]
            try simp (disch := omega) only [wrap_i64]
            repeat refine ⟨by first | omega | assumption | (simp only [maxLen]; omega) | (intros; omega) | decide, ?_⟩
            exact contS.mk (by simp [Weak, TW, T.plain, encSer_eq, encIsss_eq, encIss_eq]) h_0_2_3_4 (by kernel_rfl)
          exact anyS.nil
        refine contS.cut 4 #[true, true, true, false, false, false, false] [(0, T.val (D.agg [D.int IntKind.i64 s.rcd, D.int IntKind.i64 s.pat.start, D.int IntKind.i64 s.pat.every, D.int IntKind.i64 s.pat.per, D.int IntKind.i64 s.pat.first, encInts s.pat.skip, encInts s.pat.dbl, D.int IntKind.i64 s.next, (D.agg [D.int IntKind.i64 zIss.vol, D.int IntKind.i64 zIss.num, D.int IntKind.i64 zIss.last, D.int IntKind.i64 zIss.day, D.int IntKind.i64 zIss.st, D.int IntKind.i64 zIss.item]).slice (List.map encIss s.iss)])), (1, T.val (D.int IntKind.i64 v)), (2, T.val (D.int IntKind.i64 n)), (3, T.box [C.d (D.int IntKind.i64 s.rcd), C.d (D.int IntKind.i64 s.pat.start), C.d (D.int IntKind.i64 s.pat.every), C.d (D.int IntKind.i64 s.pat.per), C.d (D.int IntKind.i64 s.pat.first), C.d (encInts s.pat.skip), C.d (encInts s.pat.dbl), C.d (D.int IntKind.i64 s.next), C.d ((D.agg [D.int IntKind.i64 zIss.vol, D.int IntKind.i64 zIss.num, D.int IntKind.i64 zIss.last, D.int IntKind.i64 zIss.day, D.int IntKind.i64 zIss.st, D.int IntKind.i64 zIss.item]).slice (List.map encIss s.iss))]), (6, T.box [C.d (D.int IntKind.i64 (0 : Int)), C.d (D.int IntKind.i64 (0 : Int)), C.d (D.int IntKind.i64 (0 : Int)), C.d (D.int IntKind.i64 (0 : Int)), C.d (D.int IntKind.i64 (0 : Int)), C.d ((D.int IntKind.i64 (0 : Int)).slice []), C.d ((D.int IntKind.i64 (0 : Int)).slice []), C.d (D.int IntKind.i64 (0 : Int)), C.d ((D.agg [D.int IntKind.i64 (0 : Int), D.int IntKind.i64 (0 : Int), D.int IntKind.i64 (0 : Int), D.int IntKind.i64 (0 : Int), D.int IntKind.i64 (0 : Int), D.int IntKind.i64 (0 : Int)]).slice [])]), (7, T.val (D.int IntKind.i64 (0 : Int))), (8, T.val (D.int IntKind.i64 ↑k)), (9, T.box [C.d (D.int IntKind.i64 x.vol), C.d (D.int IntKind.i64 x.num), C.d (D.int IntKind.i64 x.last), C.d (D.int IntKind.i64 x.day), C.d (D.int IntKind.i64 x.st), C.d (D.int IntKind.i64 x.item)]), (15, T.val (D.bool (decide (↑k < (0 : Int))))), (29, T.val (D.bool (x.st != (1 : Int) && x.st != (3 : Int)))), (31, T.val (D.agg [D.int IntKind.i64 s.rcd, D.int IntKind.i64 s.pat.start, D.int IntKind.i64 s.pat.every, D.int IntKind.i64 s.pat.per, D.int IntKind.i64 s.pat.first, encInts s.pat.skip, encInts s.pat.dbl, D.int IntKind.i64 s.next, (D.agg [D.int IntKind.i64 zIss.vol, D.int IntKind.i64 zIss.num, D.int IntKind.i64 zIss.last, D.int IntKind.i64 zIss.day, D.int IntKind.i64 zIss.st, D.int IntKind.i64 zIss.item]).slice (List.map encIss s.iss)])), (32, T.val (D.int IntKind.i64 ↑k)), (33, T.val (D.agg [D.int IntKind.i64 x.vol, D.int IntKind.i64 x.num, D.int IntKind.i64 x.last, D.int IntKind.i64 x.day, D.int IntKind.i64 x.st, D.int IntKind.i64 x.item]))] ?_ fun h_0_2 => ?_
        · skip
          refine coreS.step E_ok [3] (by kernel_rfl) (by simp) ?_
          refine anyS.cons rfl ?_ ?_
          · skip
            simp [encSer_eq, encIsss_eq, encIss_eq, e, hx, hk, hxy]
            try simp (disch := omega) only [wrap_i64]
            repeat refine ⟨by first | omega | assumption | (simp only [maxLen]; omega) | (intros; omega) | decide, ?_⟩
            refine meet.of (ref37_changed x 5 0) ?_
            simp [encSer_eq, encIsss_eq, encIss_eq, e, hx, hk, hxy]
            try simp (disch := omega) only [wrap_i64]
            repeat refine ⟨by first | omega | assumption | (simp only [maxLen]; omega) | (intros; omega) | decide, ?_⟩
            exact contS.mk (by simp [Weak, TW, T.plain, encSer_eq, encIsss_eq, encIss_eq]) h_0_2_3 (by kernel_rfl)
          exact anyS.nil
        refine contS.cut 4 #[false, true, true, true, false, false, false] [(0, T.val (D.agg [D.int IntKind.i64 s.rcd, D.int IntKind.i64 s.pat.start, D.int IntKind.i64 s.pat.every, D.int IntKind.i64 s.pat.per, D.int IntKind.i64 s.pat.first, encInts s.pat.skip, encInts s.pat.dbl, D.int IntKind.i64 s.next, (D.agg [D.int IntKind.i64 zIss.vol, D.int IntKind.i64 zIss.num, D.int IntKind.i64 zIss.last, D.int IntKind.i64 zIss.day, D.int IntKind.i64 zIss.st, D.int IntKind.i64 zIss.item]).slice (List.map encIss s.iss)])), (1, T.val (D.int IntKind.i64 v)), (2, T.val (D.int IntKind.i64 n)), (3, T.box [C.d (D.int IntKind.i64 s.rcd), C.d (D.int IntKind.i64 s.pat.start), C.d (D.int IntKind.i64 s.pat.every), C.d (D.int IntKind.i64 s.pat.per), C.d (D.int IntKind.i64 s.pat.first), C.d (encInts s.pat.skip), C.d (encInts s.pat.dbl), C.d (D.int IntKind.i64 s.next), C.d ((D.agg [D.int IntKind.i64 zIss.vol, D.int IntKind.i64 zIss.num, D.int IntKind.i64 zIss.last, D.int IntKind.i64 zIss.day, D.int IntKind.i64 zIss.st, D.int IntKind.i64 zIss.item]).slice (List.map encIss s.iss))]), (6, T.box [C.d (D.int IntKind.i64 (0 : Int)), C.d (D.int IntKind.i64 (0 : Int)), C.d (D.int IntKind.i64 (0 : Int)), C.d (D.int IntKind.i64 (0 : Int)), C.d (D.int IntKind.i64 (0 : Int)), C.d ((D.int IntKind.i64 (0 : Int)).slice []), C.d ((D.int IntKind.i64 (0 : Int)).slice []), C.d (D.int IntKind.i64 (0 : Int)), C.d ((D.agg [D.int IntKind.i64 (0 : Int), D.int IntKind.i64 (0 : Int), D.int IntKind.i64 (0 : Int), D.int IntKind.i64 (0 : Int), D.int IntKind.i64 (0 : Int), D.int IntKind.i64 (0 : Int)]).slice [])]), (7, T.val (D.int IntKind.i64 (0 : Int))), (8, T.val (D.int IntKind.i64 ↑k)), (9, T.box [C.d (D.int IntKind.i64 x.vol), C.d (D.int IntKind.i64 x.num), C.d (D.int IntKind.i64 x.last), C.d (D.int IntKind.i64 x.day), C.d (D.int IntKind.i64 x.st), C.d (D.int IntKind.i64 x.item)]), (15, T.val (D.bool (decide (↑k < (0 : Int))))), (29, T.val (D.bool (x.st != (1 : Int) && x.st != (3 : Int)))), (32, T.val (D.int IntKind.i64 ↑k)), (34, T.val (D.agg [D.int IntKind.i64 x.vol, D.int IntKind.i64 x.num, D.int IntKind.i64 x.last, D.int IntKind.i64 x.day, D.int IntKind.i64 (5 : Int), D.int IntKind.i64 (0 : Int)]))] ?_ fun h_2_3 => ?_
        · skip
          refine coreS.step E_ok [0] (by kernel_rfl) (by simp) ?_
          refine anyS.cons rfl ?_ ?_
          · skip
            simp [encSer_eq, encIsss_eq, encIss_eq, e, hx, hk, hxy]
            try simp (disch := omega) only [wrap_i64]
            repeat refine ⟨by first | omega | assumption | (simp only [maxLen]; omega) | (intros; omega) | decide, ?_⟩
            exact contS.mk (by simp [Weak, TW, T.plain, encSer_eq, encIsss_eq, encIss_eq]) h_0_2_3 (by kernel_rfl)
          exact anyS.nil
        refine contS.cut 5 #[true, true, false, false, false, false, false] [(0, T.val (D.agg [D.int IntKind.i64 s.rcd, D.int IntKind.i64 s.pat.start, D.int IntKind.i64 s.pat.every, D.int IntKind.i64 s.pat.per, D.int IntKind.i64 s.pat.first, encInts s.pat.skip, encInts s.pat.dbl, D.int IntKind.i64 s.next, (D.agg [D.int IntKind.i64 zIss.vol, D.int IntKind.i64 zIss.num, D.int IntKind.i64 zIss.last, D.int IntKind.i64 zIss.day, D.int IntKind.i64 zIss.st, D.int IntKind.i64 zIss.item]).slice (List.map encIss s.iss)])), (1, T.val (D.int IntKind.i64 v)), (2, T.val (D.int IntKind.i64 n)), (3, T.box [C.d (D.int IntKind.i64 s.rcd), C.d (D.int IntKind.i64 s.pat.start), C.d (D.int IntKind.i64 s.pat.every), C.d (D.int IntKind.i64 s.pat.per), C.d (D.int IntKind.i64 s.pat.first), C.d (encInts s.pat.skip), C.d (encInts s.pat.dbl), C.d (D.int IntKind.i64 s.next), C.d ((D.agg [D.int IntKind.i64 zIss.vol, D.int IntKind.i64 zIss.num, D.int IntKind.i64 zIss.last, D.int IntKind.i64 zIss.day, D.int IntKind.i64 zIss.st, D.int IntKind.i64 zIss.item]).slice (List.map encIss s.iss))]), (6, T.box [C.d (D.int IntKind.i64 (0 : Int)), C.d (D.int IntKind.i64 (0 : Int)), C.d (D.int IntKind.i64 (0 : Int)), C.d (D.int IntKind.i64 (0 : Int)), C.d (D.int IntKind.i64 (0 : Int)), C.d ((D.int IntKind.i64 (0 : Int)).slice []), C.d ((D.int IntKind.i64 (0 : Int)).slice []), C.d (D.int IntKind.i64 (0 : Int)), C.d ((D.agg [D.int IntKind.i64 (0 : Int), D.int IntKind.i64 (0 : Int), D.int IntKind.i64 (0 : Int), D.int IntKind.i64 (0 : Int), D.int IntKind.i64 (0 : Int), D.int IntKind.i64 (0 : Int)]).slice [])]), (7, T.val (D.int IntKind.i64 (0 : Int))), (8, T.val (D.int IntKind.i64 ↑k)), (9, T.box [C.d (D.int IntKind.i64 x.vol), C.d (D.int IntKind.i64 x.num), C.d (D.int IntKind.i64 x.last), C.d (D.int IntKind.i64 x.day), C.d (D.int IntKind.i64 x.st), C.d (D.int IntKind.i64 x.item)]), (15, T.val (D.bool (decide (↑k < (0 : Int))))), (29, T.val (D.bool (x.st != (1 : Int) && x.st != (3 : Int)))), (31, T.val (D.agg [D.int IntKind.i64 s.rcd, D.int IntKind.i64 s.pat.start, D.int IntKind.i64 s.pat.every, D.int IntKind.i64 s.pat.per, D.int IntKind.i64 s.pat.first, encInts s.pat.skip, encInts s.pat.dbl, D.int IntKind.i64 s.next, (D.agg [D.int IntKind.i64 zIss.vol, D.int IntKind.i64 zIss.num, D.int IntKind.i64 zIss.last, D.int IntKind.i64 zIss.day, D.int IntKind.i64 zIss.st, D.int IntKind.i64 zIss.item]).slice (List.map encIss s.iss)])), (32, T.val (D.int IntKind.i64 ↑k))] ?_ fun h_0 => ?_
        · skip
          refine coreS.step E_ok [2] (by kernel_rfl) (by simp) ?_
          refine anyS.cons rfl ?_ ?_
          · skip
            simp [encSer_eq, encIsss_eq, encIss_eq, e, hx, hk, hxy]
            try simp (disch := omega) only [wrap_i64]
            repeat refine ⟨by first | omega | assumption | (simp only [maxLen]; omega) | (intros; omega) | decide, ?_⟩
            exact contS.mk (by simp [Weak, TW, T.plain, encSer_eq, encIsss_eq, encIss_eq]) h_0_2 (by kernel_rfl)
          exact anyS.nil
        refine contS.cut 5 #[false, true, true, false, false, false, false] [(0, T.val (D.agg [D.int IntKind.i64 s.rcd, D.int IntKind.i64 s.pat.start, D.int IntKind.i64 s.pat.every, D.int IntKind.i64 s.pat.per, D.int IntKind.i64 s.pat.first, encInts s.pat.skip, encInts s.pat.dbl, D.int IntKind.i64 s.next, (D.agg [D.int IntKind.i64 zIss.vol, D.int IntKind.i64 zIss.num, D.int IntKind.i64 zIss.last, D.int IntKind.i64 zIss.day, D.int IntKind.i64 zIss.st, D.int IntKind.i64 zIss.item]).slice (List.map encIss s.iss)])), (1, T.val (D.int IntKind.i64 v)), (2, T.val (D.int IntKind.i64 n)), (3, T.box [C.d (D.int IntKind.i64 s.rcd), C.d (D.int IntKind.i64 s.pat.start), C.d (D.int IntKind.i64 s.pat.every), C.d (D.int IntKind.i64 s.pat.per), C.d (D.int IntKind.i64 s.pat.first), C.d (encInts s.pat.skip), C.d (encInts s.pat.dbl), C.d (D.int IntKind.i64 s.next), C.d ((D.agg [D.int IntKind.i64 zIss.vol, D.int IntKind.i64 zIss.num, D.int IntKind.i64 zIss.last, D.int IntKind.i64 zIss.day, D.int IntKind.i64 zIss.st, D.int IntKind.i64 zIss.item]).slice (List.map encIss s.iss))]), (6, T.box [C.d (D.int IntKind.i64 (0 : Int)), C.d (D.int IntKind.i64 (0 : Int)), C.d (D.int IntKind.i64 (0 : Int)), C.d (D.int IntKind.i64 (0 : Int)), C.d (D.int IntKind.i64 (0 : Int)), C.d ((D.int IntKind.i64 (0 : Int)).slice []), C.d ((D.int IntKind.i64 (0 : Int)).slice []), C.d (D.int IntKind.i64 (0 : Int)), C.d ((D.agg [D.int IntKind.i64 (0 : Int), D.int IntKind.i64 (0 : Int), D.int IntKind.i64 (0 : Int), D.int IntKind.i64 (0 : Int), D.int IntKind.i64 (0 : Int), D.int IntKind.i64 (0 : Int)]).slice [])]), (7, T.val (D.int IntKind.i64 (0 : Int))), (8, T.val (D.int IntKind.i64 ↑k)), (9, T.box [C.d (D.int IntKind.i64 x.vol), C.d (D.int IntKind.i64 x.num), C.d (D.int IntKind.i64 x.last), C.d (D.int IntKind.i64 x.day), C.d (D.int IntKind.i64 x.st), C.d (D.int IntKind.i64 x.item)]), (15, T.val (D.bool (decide (↑k < (0 : Int))))), (29, T.val (D.bool (x.st != (1 : Int) && x.st != (3 : Int)))), (32, T.val (D.int IntKind.i64 ↑k)), (33, T.val (D.agg [D.int IntKind.i64 x.vol, D.int IntKind.i64 x.num, D.int IntKind.i64 x.last, D.int IntKind.i64 x.day, D.int IntKind.i64 x.st, D.int IntKind.i64 x.item]))] ?_ fun h_2 => ?_
        · skip
          refine coreS.step E_ok [0, 3] (by kernel_rfl) (by simp) ?_
          refine anyS.cons rfl ?_ ?_
          · skip
            simp [encSer_eq, encIsss_eq, encIss_eq, e, hx, hk, hxy]
            try simp (disch := omega) only [wrap_i64]
            repeat refine ⟨by first | omega | assumption | (simp only [maxLen]; omega) | (intros; omega) | decide, ?_⟩
            exact contS.mk (by simp [Weak, TW, T.plain, encSer_eq, encIsss_eq, encIss_eq]) h_0_2 (by kernel_rfl)
          refine anyS.cons rfl ?_ ?_
          · skip
            simp [encSer_eq, encIsss_eq, encIss_eq, e, hx, hk, hxy]
            try simp (disch := omega) only [wrap_i64]
            repeat refine ⟨by first | omega | assumption | (simp only [maxLen]; omega) | (intros; omega) | decide, ?_⟩
            refine meet.of (ref37_changed x 5 0) ?_
            simp [encSer_eq, encIsss_eq, encIss_eq, e, hx, hk, hxy]
            try simp (disch := omega) only [wrap_i64]
            repeat refine ⟨by first | omega | assumption | (simp only [maxLen]; omega) | (intros; omega) | decide, ?_⟩
            exact contS.mk (by simp [Weak, TW, T.plain, encSer_eq, encIsss_eq, encIss_eq]) h_2_3 (by kernel_rfl)
          exact anyS.nil
        refine contS.cut 6 #[false, true, false, false, false, false, false] [(0, T.val (D.agg [D.int IntKind.i64 s.rcd, D.int IntKind.i64 s.pat.start, D.int IntKind.i64 s.pat.every, D.int IntKind.i64 s.pat.per, D.int IntKind.i64 s.pat.first, encInts s.pat.skip, encInts s.pat.dbl, D.int IntKind.i64 s.next, (D.agg [D.int IntKind.i64 zIss.vol, D.int IntKind.i64 zIss.num, D.int IntKind.i64 zIss.last, D.int IntKind.i64 zIss.day, D.int IntKind.i64 zIss.st, D.int IntKind.i64 zIss.item]).slice (List.map encIss s.iss)])), (1, T.val (D.int IntKind.i64 v)), (2, T.val (D.int IntKind.i64 n)), (3, T.box [C.d (D.int IntKind.i64 s.rcd), C.d (D.int IntKind.i64 s.pat.start), C.d (D.int IntKind.i64 s.pat.every), C.d (D.int IntKind.i64 s.pat.per), C.d (D.int IntKind.i64 s.pat.first), C.d (encInts s.pat.skip), C.d (encInts s.pat.dbl), C.d (D.int IntKind.i64 s.next), C.d ((D.agg [D.int IntKind.i64 zIss.vol, D.int IntKind.i64 zIss.num, D.int IntKind.i64 zIss.last, D.int IntKind.i64 zIss.day, D.int IntKind.i64 zIss.st, D.int IntKind.i64 zIss.item]).slice (List.map encIss s.iss))]), (6, T.box [C.d (D.int IntKind.i64 (0 : Int)), C.d (D.int IntKind.i64 (0 : Int)), C.d (D.int IntKind.i64 (0 : Int)), C.d (D.int IntKind.i64 (0 : Int)), C.d (D.int IntKind.i64 (0 : Int)), C.d ((D.int IntKind.i64 (0 : Int)).slice []), C.d ((D.int IntKind.i64 (0 : Int)).slice []), C.d (D.int IntKind.i64 (0 : Int)), C.d ((D.agg [D.int IntKind.i64 (0 : Int), D.int IntKind.i64 (0 : Int), D.int IntKind.i64 (0 : Int), D.int IntKind.i64 (0 : Int), D.int IntKind.i64 (0 : Int), D.int IntKind.i64 (0 : Int)]).slice [])]), (7, T.val (D.int IntKind.i64 (0 : Int))), (8, T.val (D.int IntKind.i64 ↑k)), (9, T.box [C.d (D.int IntKind.i64 x.vol), C.d (D.int IntKind.i64 x.num), C.d (D.int IntKind.i64 x.last), C.d (D.int IntKind.i64 x.day), C.d (D.int IntKind.i64 x.st), C.d (D.int IntKind.i64 x.item)]), (15, T.val (D.bool (decide (↑k < (0 : Int))))), (29, T.val (D.bool (x.st != (1 : Int) && x.st != (3 : Int)))), (32, T.val (D.int IntKind.i64 ↑k))] ?_ fun h_ => ?_
        · skip
          refine coreS.step E_ok [0, 2] (by kernel_rfl) (by simp) ?_
          refine anyS.cons rfl ?_ ?_
          · skip
            simp [encSer_eq, encIsss_eq, encIss_eq, e, hx, hk, hxy]
            try simp (disch := omega) only [wrap_i64]
            repeat refine ⟨by first | omega | assumption | (simp only [maxLen]; omega) | (intros; omega) | decide, ?_⟩
            exact contS.mk (by simp [Weak, TW, T.plain, encSer_eq, encIsss_eq, encIss_eq]) h_0 (by kernel_rfl)
          refine anyS.cons rfl ?_ ?_
          · skip
            simp [encSer_eq, encIsss_eq, encIss_eq, e, hx, hk, hxy]
            try simp (disch := omega) only [wrap_i64]
            repeat refine ⟨by first | omega | assumption | (simp only [maxLen]; omega) | (intros; omega) | decide, ?_⟩
            exact contS.mk (by simp [Weak, TW, T.plain, encSer_eq, encIsss_eq, encIss_eq]) h_2 (by kernel_rfl)
          exact anyS.nil
        refine contS.now (f' := 7) (l' := #[false, false, false, false, false, false, false]) ?_ rfl (by kernel_rfl)
        refine coreS.dry E_ok (by kernel_rfl) 1 rfl rfl (by kernel_rfl) (by kernel_rfl) ?_
        simp [encSer_eq, encIsss_eq, encIss_eq, e, hx, hk, hxy]
        try simp (disch := omega) only [wrap_i64]
        repeat refine ⟨by first | omega | assumption | (simp only [maxLen]; omega) | (intros; omega) | decide, ?_⟩
        exact contS.mk (by simp [Weak, TW, T.plain, encSer_eq, encIsss_eq, encIss_eq]) h_ (by kernel_rfl)
      refine hK _ ?_
      clear hK K
      refine AWp.ret ?_
      repeat first | refine thenN ?_ | refine thenX ?_ | refine thenR ?_ | refine blockN ?_ | refine blockR ?_ | refine blockX ?_ | refine blockM rfl ?_
      simp [RetOk, RV, RVs, hb, zSer, zPat, encSer_eq, encInts_eq, encIsss_eq, encIss_eq, zIss, hnx]
end Go.Proofs.Ytceapemkefaicaa

set_option maxRecDepth 100000
set_option linter.unusedSimpArgs false
set_option linter.unusedVariables false
namespace Go.Proofs.Ytceapemkefaicaa
open Go Ab Pl
theorem ref36_Same (a b : List Iss) (hl : a.length ≤ 100000) : ACalls E.P 41 [encIsss a, encIsss b] (.d (.bool (decide (a = b)))) := by
  refine ACalls.intro E_ok Try.func41 rfl rfl Try.ntmps41 Try.results41 (Nat.le_of_ble_eq_true rfl) fun hok base S0 w0 => ?_
  -- region 0
  refine AWp.rseq E_ok [0, 1, 4, 5, 10, 14, 25] fun K hK => ?_
  simp [encIsss_eq, encIss_eq]
  repeat refine ⟨by first | omega | assumption | (simp only [maxLen]; omega) | (intros; omega) | decide, ?_⟩
  refine hK _ ?_
  clear hK K
  refine AWp.seq ?_
  -- region 1
  refine AWp.rseq E_ok [0, 1, 4, 5, 10, 14, 25] fun K hK => ?_
  simp [encIsss_eq, encIss_eq]
  repeat refine ⟨by first | omega | assumption | (simp only [maxLen]; omega) | (intros; omega) | decide, ?_⟩
  refine hK _ ?_
  clear hK K
  refine AWp.cond rfl (fun h10 => ?_) (fun h10 => ?_)
  · try simp at h10
    have hb : decide (a = b) = false := decide_eq_false fun h => h10 (by rw [h])
    -- region 2
    refine AWp.rseq E_ok [0, 1, 4, 5, 10, 14, 25] fun K hK => ?_
    simp [encIsss_eq, encIss_eq]
    repeat refine ⟨by first | omega | assumption | (simp only [maxLen]; omega) | (intros; omega) | decide, ?_⟩
    refine hK _ ?_
    clear hK K
    refine AWp.ret ?_
    repeat first | refine thenN ?_ | refine thenX ?_ | refine thenR ?_ | refine blockN ?_ | refine blockR ?_ | refine blockX ?_ | refine blockM rfl ?_
    simp [RetOk, RV, hb]
  · try simp at h10
    have hle := samF_eq a b (by omega)
    refine AWp.skip ?_
    repeat first | refine thenN ?_ | refine thenX ?_ | refine thenR ?_ | refine blockN ?_ | refine blockR ?_ | refine blockX ?_ | refine blockM rfl ?_
    refine AWp.seq ?_
    -- region 3
    refine AWp.rseq E_ok [0, 1, 4, 5, 10, 14, 25] fun K hK => ?_
    simp [encIsss_eq, encIss_eq]
    repeat refine ⟨by first | omega | assumption | (simp only [maxLen]; omega) | (intros; omega) | decide, ?_⟩
    refine hK _ ?_
    clear hK K
    refine AWp.block ?_
    refine AWp.range (l := a) (F := samF) (tot := samF b a) (fun k y => match y with | bs => bs = b.drop k) (fun k y => match y with | bs => [(0, T.val ((D.agg [D.int IntKind.i64 zIss.vol, D.int IntKind.i64 zIss.num, D.int IntKind.i64 zIss.last, D.int IntKind.i64 zIss.day, D.int IntKind.i64 zIss.st, D.int IntKind.i64 zIss.item]).slice (List.map encIss a))), (1, T.val ((D.agg [D.int IntKind.i64 zIss.vol, D.int IntKind.i64 zIss.num, D.int IntKind.i64 zIss.last, D.int IntKind.i64 zIss.day, D.int IntKind.i64 zIss.st, D.int IntKind.i64 zIss.item]).slice (List.map encIss b))), (5, T.val (.int .i64 k))]) (b) ?_ rfl ?_ ?_
    · simp [Weak, TW, encIsss_eq, encIss_eq]
    · first | exact trivial | (simp; omega) | simp
    rintro k bs hk hs hi
    try simp only at hi
    refine AWp.seq ?_
    -- region 4
    refine AWp.rseq E_ok [0, 1, 4, 5, 10, 14, 25] fun K hK => ?_
    simp [encIsss_eq, encIss_eq]
    repeat refine ⟨by first | omega | assumption | (simp only [maxLen]; omega) | (intros; omega) | decide, ?_⟩
    refine hK _ ?_
    clear hK K
    refine AWp.cond rfl (fun h14 => ?_) (fun h14 => ?_)
    · try simp at h14
      obtain ⟨y, hy1, hy2, hyd⟩ := at_indexG (l := b) (k := k) (by omega)
      rw [hi, hyd] at hs
      obtain ⟨x, hx, hxx, hd⟩ := at_indexG (l := a) h14
      rw [hd] at hs
      refine AWp.skip ?_
      repeat first | refine thenN ?_ | refine thenX ?_ | refine thenR ?_ | refine blockN ?_ | refine blockR ?_ | refine blockX ?_ | refine blockM rfl ?_
      refine AWp.seq ?_
      refine AWp.block ?_
      -- region 6
      refine AWp.rseqQ E_ok mixed [0, 1, 4, 5, 10, 14, 25] (by kernel_rfl) fun K hK => ?_
      simp [encIsss_eq, encIss_eq, h14, hy1, hx, hxx]
      repeat refine ⟨by first | omega | assumption | (simp only [maxLen]; omega) | (intros; omega) | decide, ?_⟩
      refine hK _ ?_
      clear hK K
      refine AWp.cond rfl (fun h25 => ?_) (fun h25 => ?_)
      · try simp at h25
        have hne : ¬ x = y := by rw [iss_eq]; omega
        rw [samF, if_neg hne] at hs
        have hb : decide (a = b) = false := by rw [← hle, ← hs]
        -- region 7
        refine AWp.rseq E_ok [0, 1, 4, 5, 10, 14, 25] fun K hK => ?_
        simp [encIsss_eq, encIss_eq, h14, hy1, hx, hxx]
        repeat refine ⟨by first | omega | assumption | (simp only [maxLen]; omega) | (intros; omega) | decide, ?_⟩
        refine hK _ ?_
        clear hK K
        refine AWp.ret ?_
        repeat first | refine thenN ?_ | refine thenX ?_ | refine thenR ?_ | refine blockN ?_ | refine blockR ?_ | refine blockX ?_ | refine blockM rfl ?_
        simp [RetOk, RV, hb]
      · try simp at h25
        have hxy : x = y := (iss_eq x y).2 (by omega)
        rw [samF, if_pos hxy] at hs
        refine AWp.skip ?_
        repeat first | refine thenN ?_ | refine thenX ?_ | refine thenR ?_ | refine blockN ?_ | refine blockR ?_ | refine blockX ?_ | refine blockM rfl ?_
        -- region 5
        refine AWp.rend E_ok [0, 1, 4, 5, 10, 14, 25] fun K hK => ?_
        simp [encIsss_eq, encIss_eq, h14, hy1, hx, hxx]
        repeat refine ⟨by first | omega | assumption | (simp only [maxLen]; omega) | (intros; omega) | decide, ?_⟩
        refine hK _ ?_
        clear hK K
        repeat first | refine thenN ?_ | refine thenX ?_ | refine thenR ?_ | refine blockN ?_ | refine blockR ?_ | refine blockX ?_ | refine blockM rfl ?_
        have hw : IntKind.i64.wrap ((k : Int) + 1) = (k : Int) + 1 := by rw [wrap_i64] <;> omega
        skip
        refine ⟨_, h14, hs, ?_, ?_⟩
        · first | exact trivial | (simp; omega) | simp
        · simp [Weak, TW, hw, encIsss_eq, encIss_eq]
    · try simp at h14
      obtain rfl : k = a.length := by omega
      simp [samF] at hs
      have hb : decide (a = b) = true := by rw [← hle]; simp [hs]
      refine AWp.exit ?_
      repeat first | refine thenN ?_ | refine thenX ?_ | refine thenR ?_ | refine blockN ?_ | refine blockR ?_ | refine blockX ?_ | refine blockM rfl ?_
      -- region 8
      refine AWp.rseq E_ok [0, 1, 4, 5, 10, 14, 25] fun K hK => ?_
      simp [encIsss_eq, encIss_eq, h14]
      repeat refine ⟨by first | omega | assumption | (simp only [maxLen]; omega) | (intros; omega) | decide, ?_⟩
      refine hK _ ?_
      clear hK K
      refine AWp.ret ?_
      repeat first | refine thenN ?_ | refine thenX ?_ | refine thenR ?_ | refine blockN ?_ | refine blockR ?_ | refine blockX ?_ | refine blockM rfl ?_
      simp [RetOk, RV, hb]
end Go.Proofs.Ytceapemkefaicaa

/- Lists of integers compared. -/
namespace Pl
open Go Ab
set_option linter.unusedVariables false
set_option linter.unusedSimpArgs false
def samZ : List Int → List Int → Bool
  | _, [] => true
  | [], _ :: _ => false
  | y :: b, x :: a => if x = y then samZ b a else false
theorem samZ_eq : ∀ (a b : List Int), a.length = b.length → samZ b a = decide (a = b)
  | [], [], _ => by simp [samZ]
  | x :: a, y :: b, h => by
    rw [samZ, samZ_eq a b (by simpa using h)]
    by_cases hxy : x = y
    · subst hxy; simp
    · simp [hxy]
end Pl

set_option maxRecDepth 100000
set_option linter.unusedSimpArgs false
set_option linter.unusedVariables false
namespace Go.Proofs.Ytceapemkefaicaa
open Go Ab Pl
theorem ref37_same (a b : List Int) (hl : a.length ≤ 100000) : ACalls E.P 70 [encInts a, encInts b] (.d (.bool (decide (a = b)))) := by
  refine ACalls.intro E_ok Try.func70 rfl rfl Try.ntmps70 Try.results70 (Nat.le_of_ble_eq_true rfl) fun hok base S0 w0 => ?_
  -- region 0
  refine AWp.rseq E_ok [0, 1, 4, 5, 10, 14, 25] fun K hK => ?_
  simp [encInts_eq]
  repeat refine ⟨by first | omega | assumption | (simp only [maxLen]; omega) | (intros; omega) | decide, ?_⟩
  refine hK _ ?_
  clear hK K
  refine AWp.seq ?_
  -- region 1
  refine AWp.rseq E_ok [0, 1, 4, 5, 10, 14, 25] fun K hK => ?_
  simp [encInts_eq]
  repeat refine ⟨by first | omega | assumption | (simp only [maxLen]; omega) | (intros; omega) | decide, ?_⟩
  refine hK _ ?_
  clear hK K
  refine AWp.cond rfl (fun h10 => ?_) (fun h10 => ?_)
  · try simp at h10
    have hb : decide (a = b) = false := decide_eq_false fun h => h10 (by rw [h])
    -- region 2
    refine AWp.rseq E_ok [0, 1, 4, 5, 10, 14, 25] fun K hK => ?_
    simp [encInts_eq]
    repeat refine ⟨by first | omega | assumption | (simp only [maxLen]; omega) | (intros; omega) | decide, ?_⟩
    refine hK _ ?_
    clear hK K
    refine AWp.ret ?_
    repeat first | refine thenN ?_ | refine thenX ?_ | refine thenR ?_ | refine blockN ?_ | refine blockR ?_ | refine blockX ?_ | refine blockM rfl ?_
    simp [RetOk, RV, hb]
  · try simp at h10
    have hle := samZ_eq a b (by omega)
    refine AWp.skip ?_
    repeat first | refine thenN ?_ | refine thenX ?_ | refine thenR ?_ | refine blockN ?_ | refine blockR ?_ | refine blockX ?_ | refine blockM rfl ?_
    refine AWp.seq ?_
    -- region 3
    refine AWp.rseq E_ok [0, 1, 4, 5, 10, 14, 25] fun K hK => ?_
    simp [encInts_eq]
    repeat refine ⟨by first | omega | assumption | (simp only [maxLen]; omega) | (intros; omega) | decide, ?_⟩
    refine hK _ ?_
    clear hK K
    refine AWp.block ?_
    refine AWp.range (l := a) (F := samZ) (tot := samZ b a) (fun k y => match y with | bs => bs = b.drop k) (fun k y => match y with | bs => [(0, T.val ((D.int IntKind.i64 0).slice (List.map (D.int IntKind.i64) a))), (1, T.val ((D.int IntKind.i64 0).slice (List.map (D.int IntKind.i64) b))), (5, T.val (.int .i64 k))]) (b) ?_ rfl ?_ ?_
    · simp [Weak, TW, encInts_eq]
    · first | exact trivial | (simp; omega) | simp
    rintro k bs hk hs hi
    try simp only at hi
    refine AWp.seq ?_
    -- region 4
    refine AWp.rseq E_ok [0, 1, 4, 5, 10, 14, 25] fun K hK => ?_
    simp [encInts_eq]
    repeat refine ⟨by first | omega | assumption | (simp only [maxLen]; omega) | (intros; omega) | decide, ?_⟩
    refine hK _ ?_
    clear hK K
    refine AWp.cond rfl (fun h14 => ?_) (fun h14 => ?_)
    · try simp at h14
      obtain ⟨y, hy1, hy2, hyd⟩ := at_indexG (l := b) (k := k) (by omega)
      rw [hi, hyd] at hs
      obtain ⟨x, hx, hxx, hd⟩ := at_indexG (l := a) h14
      rw [hd] at hs
      refine AWp.skip ?_
      repeat first | refine thenN ?_ | refine thenX ?_ | refine thenR ?_ | refine blockN ?_ | refine blockR ?_ | refine blockX ?_ | refine blockM rfl ?_
      refine AWp.seq ?_
      refine AWp.block ?_
      -- region 6
      refine AWp.rseqQ E_ok mixed [0, 1, 4, 5, 10, 14, 25] (by kernel_rfl) fun K hK => ?_
      simp [encInts_eq, h14, hy1, hx, hxx]
      repeat refine ⟨by first | omega | assumption | (simp only [maxLen]; omega) | (intros; omega) | decide, ?_⟩
      refine hK _ ?_
      clear hK K
      refine AWp.cond rfl (fun h25 => ?_) (fun h25 => ?_)
      · try simp at h25
        rw [samZ, if_neg h25] at hs
        have hb : decide (a = b) = false := by rw [← hle, ← hs]
        -- region 7
        refine AWp.rseq E_ok [0, 1, 4, 5, 10, 14, 25] fun K hK => ?_
        simp [encInts_eq, h14, hy1, hx, hxx]
        repeat refine ⟨by first | omega | assumption | (simp only [maxLen]; omega) | (intros; omega) | decide, ?_⟩
        refine hK _ ?_
        clear hK K
        refine AWp.ret ?_
        repeat first | refine thenN ?_ | refine thenX ?_ | refine thenR ?_ | refine blockN ?_ | refine blockR ?_ | refine blockX ?_ | refine blockM rfl ?_
        simp [RetOk, RV, hb]
      · try simp at h25
        rw [samZ, if_pos h25] at hs
        refine AWp.skip ?_
        repeat first | refine thenN ?_ | refine thenX ?_ | refine thenR ?_ | refine blockN ?_ | refine blockR ?_ | refine blockX ?_ | refine blockM rfl ?_
        -- region 5
        refine AWp.rend E_ok [0, 1, 4, 5, 10, 14, 25] fun K hK => ?_
        simp [encInts_eq, h14, hy1, hx, hxx]
        repeat refine ⟨by first | omega | assumption | (simp only [maxLen]; omega) | (intros; omega) | decide, ?_⟩
        refine hK _ ?_
        clear hK K
        repeat first | refine thenN ?_ | refine thenX ?_ | refine thenR ?_ | refine blockN ?_ | refine blockR ?_ | refine blockX ?_ | refine blockM rfl ?_
        have hw : IntKind.i64.wrap ((k : Int) + 1) = (k : Int) + 1 := by rw [wrap_i64] <;> omega
        skip
        refine ⟨_, h14, hs, ?_, ?_⟩
        · first | exact trivial | (simp; omega) | simp
        · simp [Weak, TW, hw, encInts_eq]
    · try simp at h14
      obtain rfl : k = a.length := by omega
      simp [samZ] at hs
      have hb : decide (a = b) = true := by rw [← hle]; simp [hs]
      refine AWp.exit ?_
      repeat first | refine thenN ?_ | refine thenX ?_ | refine thenR ?_ | refine blockN ?_ | refine blockR ?_ | refine blockX ?_ | refine blockM rfl ?_
      -- region 8
      refine AWp.rseq E_ok [0, 1, 4, 5, 10, 14, 25] fun K hK => ?_
      simp [encInts_eq, h14]
      repeat refine ⟨by first | omega | assumption | (simp only [maxLen]; omega) | (intros; omega) | decide, ?_⟩
      refine hK _ ?_
      clear hK K
      refine AWp.ret ?_
      repeat first | refine thenN ?_ | refine thenX ?_ | refine thenR ?_ | refine blockN ?_ | refine blockR ?_ | refine blockX ?_ | refine blockM rfl ?_
      simp [RetOk, RV, hb]
end Go.Proofs.Ytceapemkefaicaa

set_option maxRecDepth 100000
set_option linter.unusedSimpArgs false
set_option linter.unusedVariables false
namespace Go.Proofs.Ytceapemkefaicaa
open Go Ab Pl
theorem ref37_SamePattern (a b : Pat) (h1 : a.skip.length ≤ 100000) (h2 : a.dbl.length ≤ 100000) : ACalls E.P 47 [encPat a, encPat b] (.d (.bool (decide (a = b)))) := by
  refine ACalls.intro E_ok Try.func47 rfl rfl Try.ntmps47 Try.results47 (Nat.le_of_ble_eq_true rfl) fun hok base S0 w0 => ?_
  -- region 0
  refine AWp.rseq E_ok [0, 1, 2, 3, 4] fun K hK => ?_
  simp [encPat_eq]
  repeat refine ⟨by first | omega | assumption | (simp only [maxLen]; omega) | (intros; omega) | decide, ?_⟩
  refine hK _ ?_
  clear hK K
  -- region 1
  refine AWp.rseq E_ok [0, 1, 2, 3, 4] fun K hK => ?_
  simp [encPat_eq]
  repeat refine ⟨by first | omega | assumption | (simp only [maxLen]; omega) | (intros; omega) | decide, ?_⟩
  refine meet.of (ref37_same a.skip b.skip (by omega)) ?_
  simp [encPat_eq]
  repeat refine ⟨by first | omega | assumption | (simp only [maxLen]; omega) | (intros; omega) | decide, ?_⟩
  refine meet.of (ref37_same a.dbl b.dbl (by omega)) ?_
  simp [encPat_eq]
  repeat refine ⟨by first | omega | assumption | (simp only [maxLen]; omega) | (intros; omega) | decide, ?_⟩
  refine hK _ ?_
  clear hK K
  refine AWp.ret ?_
  repeat first | refine thenN ?_ | refine thenX ?_ | refine thenR ?_ | refine blockN ?_ | refine blockR ?_ | refine blockX ?_ | refine blockM rfl ?_
  simp [RetOk, RV]; rw [Bool.eq_iff_iff]; simp [pat_eq, and_assoc]
end Go.Proofs.Ytceapemkefaicaa

set_option maxRecDepth 100000
set_option linter.unusedSimpArgs false
set_option linter.unusedVariables false
namespace Go.Proofs.Ytceapemkefaicaa
open Go Ab Pl
theorem ref37_Same (a b : Ser) (h1 : a.pat.skip.length ≤ 100000) (h2 : a.pat.dbl.length ≤ 100000) (h3 : a.iss.length ≤ 100000) : ACalls E.P 20 [encSer a, encSer b] (.d (.bool (decide (a = b)))) := by
  refine ACalls.intro E_ok Try.func20 rfl rfl Try.ntmps20 Try.results20 (Nat.le_of_ble_eq_true rfl) fun hok base S0 w0 => ?_
  -- region 0
  refine AWp.rseq E_ok [0, 1, 2, 3, 4] fun K hK => ?_
  simp [encSer_eq, encIsss_eq]
  repeat refine ⟨by first | omega | assumption | (simp only [maxLen]; omega) | (intros; omega) | decide, ?_⟩
  refine hK _ ?_
  clear hK K
  -- region 1
  refine AWp.rseq E_ok [0, 1, 2, 3, 4] fun K hK => ?_
  simp [encSer_eq, encIsss_eq]
  repeat refine ⟨by first | omega | assumption | (simp only [maxLen]; omega) | (intros; omega) | decide, ?_⟩
  refine meet.of (ref36_Same a.iss b.iss (by omega)) ?_
  simp [encSer_eq, encIsss_eq]
  repeat refine ⟨by first | omega | assumption | (simp only [maxLen]; omega) | (intros; omega) | decide, ?_⟩
  refine meet.of (ref37_SamePattern a.pat b.pat (by omega) (by omega)) ?_
  simp [encSer_eq, encIsss_eq]
  repeat refine ⟨by first | omega | assumption | (simp only [maxLen]; omega) | (intros; omega) | decide, ?_⟩
  refine hK _ ?_
  clear hK K
  refine AWp.ret ?_
  repeat first | refine thenN ?_ | refine thenX ?_ | refine thenR ?_ | refine blockN ?_ | refine blockR ?_ | refine blockX ?_ | refine blockM rfl ?_
  simp [RetOk, RV]; rw [Bool.eq_iff_iff]; simp [ser_eq]
end Go.Proofs.Ytceapemkefaicaa

set_option maxRecDepth 100000
set_option linter.unusedSimpArgs false
set_option linter.unusedVariables false
namespace Go.Proofs.Ytceapemkefaicaa
open Go Ab Pl
theorem law37_SerialReceives (s : Ser) (q : Int × Int) (it : Int) : ACalls E.P 6 [encSer s, .agg [.int .i64 q.1, .int .i64 q.2], .int .i64 it] (.d (.bool true)) := by
  refine ACalls.intro E_ok Try.func6 rfl rfl Try.ntmps6 Try.results6 (Nat.le_of_ble_eq_true rfl) fun hok base S0 w0 => ?_
  -- region 0
  refine AWp.rseq E_ok [0, 1, 2, 3, 4, 6, 7, 8, 9, 10, 11, 12, 13, 14, 17] fun K hK => ?_
  simp [encSer_eq, encIsss_eq, serR_1, serR_2]
  repeat refine ⟨by first | omega | assumption | (simp only [maxLen]; omega) | (intros; omega) | decide, ?_⟩
  refine hK _ ?_
  clear hK K
  refine AWp.seq ?_
  -- region 1
  refine AWp.rseq E_ok [0, 1, 2, 3, 4, 6, 7, 8, 9, 10, 11, 12, 13, 14, 17] fun K hK => ?_
  simp [encSer_eq, encIsss_eq, serR_1, serR_2]
  repeat refine ⟨by first | omega | assumption | (simp only [maxLen]; omega) | (intros; omega) | decide, ?_⟩
  refine meet.of (law37_valid s) ?_
  simp [encSer_eq, encIsss_eq, serR_1, serR_2]
  repeat refine ⟨by first | omega | assumption | (simp only [maxLen]; omega) | (intros; omega) | decide, ?_⟩
  refine hK _ ?_
  clear hK K
  refine AWp.cond rfl (fun h17 => ?_) (fun h17 => ?_)
  · try simp at h17
    -- region 2
    refine AWp.rseq E_ok [0, 1, 2, 3, 4, 6, 7, 8, 9, 10, 11, 12, 13, 14, 17] fun K hK => ?_
    simp [encSer_eq, encIsss_eq, serR_1, serR_2]
    repeat refine ⟨by first | omega | assumption | (simp only [maxLen]; omega) | (intros; omega) | decide, ?_⟩
    refine meet.of (law37_alive) ?_
    simp [encSer_eq, encIsss_eq, serR_1, serR_2]
    repeat refine ⟨by first | omega | assumption | (simp only [maxLen]; omega) | (intros; omega) | decide, ?_⟩
    refine hK _ ?_
    clear hK K
    refine AWp.ret ?_
    repeat first | refine thenN ?_ | refine thenX ?_ | refine thenR ?_ | refine blockN ?_ | refine blockR ?_ | refine blockX ?_ | refine blockM rfl ?_
    simp [RetOk, RV]
  · try simp at h17
    have hv := h17
    have h : SerOk s := serR_ok (by simpa using hv.2)
    have hlen := len_rec q.1 q.2 it (small_ok (by simpa using hv.1))
    have hlen2 := len_miss q.1 q.2 (small_ok (by simpa using hv.1))
    refine AWp.skip ?_
    repeat first | refine thenN ?_ | refine thenX ?_ | refine thenR ?_ | refine blockN ?_ | refine blockR ?_ | refine blockX ?_ | refine blockM rfl ?_
    -- region 3
    refine AWp.rseq E_ok [0, 1, 2, 3, 4, 6, 7, 8, 9, 10, 11, 12, 13, 14, 17] fun K hK => ?_
    simp [encSer_eq, encIsss_eq, serR_1, serR_2]
    repeat refine ⟨by first | omega | assumption | (simp only [maxLen]; omega) | (intros; omega) | decide, ?_⟩
    refine meet.of (serial_Receive s q.1 q.2 it (by have := h.len; omega)) ?_
    simp [encSer_eq, encIsss_eq, serR_1, serR_2]
    repeat refine ⟨by first | omega | assumption | (simp only [maxLen]; omega) | (intros; omega) | decide, ?_⟩
    refine hK _ ?_
    clear hK K
    -- region 4
    refine AWp.rseq E_ok [0, 1, 2, 3, 4, 6, 7, 8, 9, 10, 11, 12, 13, 14, 17] fun K hK => ?_
    simp [encSer_eq, encIsss_eq, serR_1, serR_2]
    repeat refine ⟨by first | omega | assumption | (simp only [maxLen]; omega) | (intros; omega) | decide, ?_⟩
    refine meet.of (ref37_Receive s q.1 q.2 it (by have := h.len; omega) h.next (fun x hx => (h.rng hx).2.2.2.2.1)) ?_
    simp [encSer_eq, encIsss_eq, serR_1, serR_2]
    repeat refine ⟨by first | omega | assumption | (simp only [maxLen]; omega) | (intros; omega) | decide, ?_⟩
    refine hK _ ?_
    clear hK K
    -- region 5
    refine AWp.rseq E_ok [0, 1, 2, 3, 4, 6, 7, 8, 9, 10, 11, 12, 13, 14, 17] fun K hK => ?_
    simp [encSer_eq, encIsss_eq, serR_1, serR_2]
    repeat refine ⟨by first | omega | assumption | (simp only [maxLen]; omega) | (intros; omega) | decide, ?_⟩
    refine meet.of (serial_Miss s q.1 q.2 (by have := h.len; omega)) ?_
    simp [encSer_eq, encIsss_eq, serR_1, serR_2]
    repeat refine ⟨by first | omega | assumption | (simp only [maxLen]; omega) | (intros; omega) | decide, ?_⟩
    refine hK _ ?_
    clear hK K
    -- region 6
    refine AWp.rseq E_ok [0, 1, 2, 3, 4, 6, 7, 8, 9, 10, 11, 12, 13, 14, 17] fun K hK => ?_
    simp [encSer_eq, encIsss_eq, serR_1, serR_2]
    repeat refine ⟨by first | omega | assumption | (simp only [maxLen]; omega) | (intros; omega) | decide, ?_⟩
    refine meet.of (ref37_Miss s q.1 q.2 (by have := h.len; omega) h.next (fun x hx => h.free hx)) ?_
    simp [encSer_eq, encIsss_eq, serR_1, serR_2]
    repeat refine ⟨by first | omega | assumption | (simp only [maxLen]; omega) | (intros; omega) | decide, ?_⟩
    refine hK _ ?_
    clear hK K
    -- region 7
    refine AWp.rseq E_ok [0, 1, 2, 3, 4, 6, 7, 8, 9, 10, 11, 12, 13, 14, 17] fun K hK => ?_
    simp [encSer_eq, encIsss_eq, serR_1, serR_2]
    repeat refine ⟨by first | omega | assumption | (simp only [maxLen]; omega) | (intros; omega) | decide, ?_⟩
    refine meet.of (ref37_Same (recR s q.1 q.2 it).1 (recR s q.1 q.2 it).1 hlen.1 hlen.2.1 hlen.2.2) ?_
    simp [encSer_eq, encIsss_eq, serR_1, serR_2]
    repeat refine ⟨by first | omega | assumption | (simp only [maxLen]; omega) | (intros; omega) | decide, ?_⟩
    refine meet.of (ref37_Same (missR s q.1 q.2).1 (missR s q.1 q.2).1 hlen2.1 hlen2.2.1 hlen2.2.2) ?_
    simp [encSer_eq, encIsss_eq, serR_1, serR_2]
    repeat refine ⟨by first | omega | assumption | (simp only [maxLen]; omega) | (intros; omega) | decide, ?_⟩
    refine meet.of (law37_alive) ?_
    simp [encSer_eq, encIsss_eq, serR_1, serR_2]
    repeat refine ⟨by first | omega | assumption | (simp only [maxLen]; omega) | (intros; omega) | decide, ?_⟩
    refine hK _ ?_
    clear hK K
    refine AWp.ret ?_
    repeat first | refine thenN ?_ | refine thenX ?_ | refine thenR ?_ | refine blockN ?_ | refine blockR ?_ | refine blockX ?_ | refine blockM rfl ?_
    simp [RetOk, RV]
end Go.Proofs.Ytceapemkefaicaa
