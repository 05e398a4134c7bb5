/-
  What the functions compute that the statement reaches: contracts, and the plain laws between them. Conditions stand at each theorem.
-/
import Derived.Test.YtkdcnpdjmkoicaaWalkThree
set_option linter.unusedVariables false
set_option linter.unusedSimpArgs false
set_option maxRecDepth 100000
set_option linter.unusedSimpArgs false
set_option linter.unusedVariables false
namespace Go.Proofs.Ytkdcnpdjmkoicaa
open Go Ab Lib
theorem law27_PolicyOmits (l : List Rule) (q : Qry) : ACalls E.P 9 [encRules l, encQ8 q] (.d (.bool true)) := by
  refine ACalls.intro E_ok Try.func9 rfl rfl Try.ntmps9 Try.results9 (Nat.le_of_ble_eq_true rfl) fun hok base S0 w0 => ?_
  have hhl : (omF (hidR l) ([], 0) l).length + (hidR l).length = l.length := om_len l
  have a1 := Ok_u8 (Ok_agg (hok (encQ8 q) (by simp)) (.int .u8 q.p) (by simp [encQ8]))
  have a2 := Ok_u8 (Ok_agg (hok (encQ8 q) (by simp)) (.int .u8 q.i) (by simp [encQ8]))
  have a3 := Ok_u8 (Ok_agg (hok (encQ8 q) (by simp)) (.int .u8 q.b) (by simp [encQ8]))
  have e1 : IntKind.i64.wrap (1 + IntKind.i64.wrap (q.p.tmod 9)) = 1 + q.p % 9 := by rw [Int.tmod_eq_emod_of_nonneg (by omega), wrap_i64 (n := q.p % 9) (by omega) (by omega), wrap_i64 (by omega) (by omega)]
  have e2 : IntKind.i64.wrap (1 + IntKind.i64.wrap (q.i.tmod 9)) = 1 + q.i % 9 := by rw [Int.tmod_eq_emod_of_nonneg (by omega), wrap_i64 (n := q.i % 9) (by omega) (by omega), wrap_i64 (by omega) (by omega)]
  have e3 : IntKind.i64.wrap (1 + IntKind.i64.wrap (q.b.tmod 4)) = 1 + q.b % 4 := by rw [Int.tmod_eq_emod_of_nonneg (by omega), wrap_i64 (n := q.b % 4) (by omega) (by omega), wrap_i64 (by omega) (by omega)]
  -- region 0
  refine AWp.rseq E_ok [0, 1, 3, 4, 5, 6, 7, 8, 10, 11, 12, 13, 14, 15, 16, 17, 25, 31, 32, 33, 35, 36, 37, 38, 49] fun K hK => ?_
  simp [encRules_eq, encQ8_eq, encRule_eq, encInts_eq]
  repeat refine ⟨by first | omega | assumption | decide | (simp only [maxLen]; omega) | (intros; omega), ?_⟩
  refine hK _ ?_
  clear hK K
  refine AWp.seq ?_
  -- region 1
  refine AWp.rseq E_ok [0, 1, 3, 4, 5, 6, 7, 8, 10, 11, 12, 13, 14, 15, 16, 17, 25, 31, 32, 33, 35, 36, 37, 38, 49] fun K hK => ?_
  simp [encRules_eq, encQ8_eq, encRule_eq, encInts_eq]
  repeat refine ⟨by first | omega | assumption | decide | (simp only [maxLen]; omega) | (intros; omega), ?_⟩
  refine meet.of (policy_Right l) ?_
  simp [encRules_eq, encQ8_eq, encRule_eq, encInts_eq]
  repeat refine ⟨by first | omega | assumption | decide | (simp only [maxLen]; omega) | (intros; omega), ?_⟩
  refine hK _ ?_
  clear hK K
  refine AWp.cond rfl (fun h25 => ?_) (fun h25 => ?_)
  · try simp at h25
    -- region 2
    refine AWp.rseq E_ok [0, 1, 3, 4, 5, 6, 7, 8, 10, 11, 12, 13, 14, 15, 16, 17, 25, 31, 32, 33, 35, 36, 37, 38, 49] fun K hK => ?_
    simp [encRules_eq, encQ8_eq, encRule_eq, encInts_eq, h25]
    repeat refine ⟨by first | omega | assumption | decide | (simp only [maxLen]; omega) | (intros; omega), ?_⟩
    refine meet.of (law27_alive) ?_
    simp [encRules_eq, encQ8_eq, encRule_eq, encInts_eq, h25]
    repeat refine ⟨by first | omega | assumption | decide | (simp only [maxLen]; omega) | (intros; omega), ?_⟩
    refine hK _ ?_
    clear hK K
    refine AWp.ret ?_
    repeat first | refine thenN ?_ | refine thenX ?_ | refine thenR ?_ | refine blockN ?_ | refine blockR ?_ | refine blockX ?_ | refine blockM rfl ?_
    first | (simp [RetOk, RV]; done) | (simp [RetOk, RV, f1, f2, e4])
  · try simp at h25
    have hr : rulesR l = 0 := h25.2
    have e4 : IntKind.i64.wrap (((omF (hidR l) ([], 0) l).length : Int) + ((hidR l).length : Int)) = (l.length : Int) := by rw [wrap_i64 (by omega) (by omega)]; omega
    refine AWp.skip ?_
    repeat first | refine thenN ?_ | refine thenX ?_ | refine thenR ?_ | refine blockN ?_ | refine blockR ?_ | refine blockX ?_ | refine blockM rfl ?_
    -- region 3
    refine AWp.rseq E_ok [0, 1, 3, 4, 5, 6, 7, 8, 10, 11, 12, 13, 14, 15, 16, 17, 25, 31, 32, 33, 35, 36, 37, 38, 49] fun K hK => ?_
    simp [encRules_eq, encQ8_eq, encRule_eq, encInts_eq, h25]
    repeat refine ⟨by first | omega | assumption | decide | (simp only [maxLen]; omega) | (intros; omega), ?_⟩
    refine meet.of (policy_Hidden l (by omega)) ?_
    simp [encRules_eq, encQ8_eq, encRule_eq, encInts_eq, h25]
    repeat refine ⟨by first | omega | assumption | decide | (simp only [maxLen]; omega) | (intros; omega), ?_⟩
    refine hK _ ?_
    clear hK K
    -- region 4
    refine AWp.rseq E_ok [0, 1, 3, 4, 5, 6, 7, 8, 10, 11, 12, 13, 14, 15, 16, 17, 25, 31, 32, 33, 35, 36, 37, 38, 49] fun K hK => ?_
    simp [encRules_eq, encQ8_eq, encRule_eq, encInts_eq, h25]
    repeat refine ⟨by first | omega | assumption | decide | (simp only [maxLen]; omega) | (intros; omega), ?_⟩
    refine hK _ ?_
    clear hK K
    refine AWp.seq ?_
    -- region 5
    refine AWp.rseq E_ok [0, 1, 3, 4, 5, 6, 7, 8, 10, 11, 12, 13, 14, 15, 16, 17, 25, 31, 32, 33, 35, 36, 37, 38, 49] fun K hK => ?_
    simp [encRules_eq, encQ8_eq, encRule_eq, encInts_eq, h25]
    repeat refine ⟨by first | omega | assumption | decide | (simp only [maxLen]; omega) | (intros; omega), ?_⟩
    refine hK _ ?_
    clear hK K
    refine AWp.block ?_
    refine AWp.range (l := l) (F := omF (hidR l)) (tot := omF (hidR l) ([], 0) l) (fun k y => match y with | (o, m) => m = k ∧ o.length ≤ k) (fun k y => match y with | (o, m) => [(0, T.val ((D.agg [D.int IntKind.i64 zr.r0, D.int IntKind.i64 zr.r1, D.int IntKind.i64 zr.r2, D.int IntKind.i64 zr.r3, D.int IntKind.i64 zr.r4, D.int IntKind.i64 zr.fine, D.int IntKind.i64 zr.grace, D.int IntKind.i64 zr.maxFine, D.int IntKind.i64 zr.r8, D.int IntKind.i64 zr.r9, D.int IntKind.i64 zr.r10, D.int IntKind.i64 zr.r11, D.int IntKind.i64 zr.r12]).slice (List.map encRule l))), (1, T.val (D.agg [D.int IntKind.u8 q.p, D.int IntKind.u8 q.i, D.int IntKind.u8 q.b])), (3, T.box [C.d (D.int IntKind.u8 q.p), C.d (D.int IntKind.u8 q.i), C.d (D.int IntKind.u8 q.b)]), (5, T.val ((D.int IntKind.i64 0).slice (List.map (D.int IntKind.i64) (hidR l)))), (6, T.own true (encRule zr) (o.map encRule)), (31, T.val (D.int IntKind.i64 ↑l.length)), (32, T.val (.int .i64 k))]) ([], 0) ?_ rfl ?_ ?_
    · simp [Weak, TW, encRules_eq, encQ8_eq, encRule_eq, encInts_eq, zr]
    · exact ⟨rfl, by simp⟩
    rintro k ⟨o, m⟩ hk hs hi
    try simp only at hi
    -- region 6
    refine AWp.rseq E_ok [0, 1, 3, 4, 5, 6, 7, 8, 10, 11, 12, 13, 14, 15, 16, 17, 25, 31, 32, 33, 35, 36, 37, 38, 49] fun K hK => ?_
    simp [encRules_eq, encQ8_eq, encRule_eq, encInts_eq, h25]
    repeat refine ⟨by first | omega | assumption | decide | (simp only [maxLen]; omega) | (intros; omega), ?_⟩
    refine hK _ ?_
    clear hK K
    refine AWp.seq ?_
    refine AWp.cond rfl (fun h33 => ?_) (fun h33 => ?_)
    · try simp at h33
      obtain ⟨x, hx, hxx, hd⟩ := at_indexG (l := l) h33
      rw [hd] at hs
      obtain ⟨hm, ho⟩ := hi
      rw [hm] at hs
      refine AWp.skip ?_
      repeat first | refine thenN ?_ | refine thenX ?_ | refine thenR ?_ | refine blockN ?_ | refine blockR ?_ | refine blockX ?_ | refine blockM rfl ?_
      refine AWp.seq ?_
      refine AWp.block ?_
      -- region 7
      refine AWp.rseq E_ok [0, 1, 3, 4, 5, 6, 7, 8, 10, 11, 12, 13, 14, 15, 16, 17, 25, 31, 32, 33, 35, 36, 37, 38, 49] fun K hK => ?_
      simp [encRules_eq, encQ8_eq, encRule_eq, encInts_eq, h25, h33, hx, hxx]
      repeat refine ⟨by first | omega | assumption | decide | (simp only [maxLen]; omega) | (intros; omega), ?_⟩
      refine hK _ ?_
      clear hK K
      -- region 8
      refine AWp.rseq E_ok [0, 1, 3, 4, 5, 6, 7, 8, 10, 11, 12, 13, 14, 15, 16, 17, 25, 31, 32, 33, 35, 36, 37, 38, 49] fun K hK => ?_
      simp [encRules_eq, encQ8_eq, encRule_eq, encInts_eq, h25, h33, hx, hxx]
      repeat refine ⟨by first | omega | assumption | decide | (simp only [maxLen]; omega) | (intros; omega), ?_⟩
      refine hK _ ?_
      clear hK K
      refine AWp.seq ?_
      -- region 9
      refine AWp.rseq E_ok [0, 1, 3, 4, 5, 6, 7, 8, 10, 11, 12, 13, 14, 15, 16, 17, 25, 31, 32, 33, 35, 36, 37, 38, 49] fun K hK => ?_
      simp [encRules_eq, encQ8_eq, encRule_eq, encInts_eq, h25, h33, hx, hxx]
      repeat refine ⟨by first | omega | assumption | decide | (simp only [maxLen]; omega) | (intros; omega), ?_⟩
      refine hK _ ?_
      clear hK K
      refine AWp.block ?_
      refine AWp.range (l := (hidR l)) (F := dropF (k : Int)) (tot := dropF (k : Int) false (hidR l)) (fun k1 y => match y with | t => True) (fun k1 y => match y with | t => [(0, T.val ((D.agg [D.int IntKind.i64 zr.r0, D.int IntKind.i64 zr.r1, D.int IntKind.i64 zr.r2, D.int IntKind.i64 zr.r3, D.int IntKind.i64 zr.r4, D.int IntKind.i64 zr.fine, D.int IntKind.i64 zr.grace, D.int IntKind.i64 zr.maxFine, D.int IntKind.i64 zr.r8, D.int IntKind.i64 zr.r9, D.int IntKind.i64 zr.r10, D.int IntKind.i64 zr.r11, D.int IntKind.i64 zr.r12]).slice (List.map encRule l))), (1, T.val (D.agg [D.int IntKind.u8 q.p, D.int IntKind.u8 q.i, D.int IntKind.u8 q.b])), (3, T.box [C.d (D.int IntKind.u8 q.p), C.d (D.int IntKind.u8 q.i), C.d (D.int IntKind.u8 q.b)]), (5, T.val ((D.int IntKind.i64 0).slice (List.map (D.int IntKind.i64) (hidR l)))), (6, T.own true (D.agg [D.int IntKind.i64 zr.r0, D.int IntKind.i64 zr.r1, D.int IntKind.i64 zr.r2, D.int IntKind.i64 zr.r3, D.int IntKind.i64 zr.r4, D.int IntKind.i64 zr.fine, D.int IntKind.i64 zr.grace, D.int IntKind.i64 zr.maxFine, D.int IntKind.i64 zr.r8, D.int IntKind.i64 zr.r9, D.int IntKind.i64 zr.r10, D.int IntKind.i64 zr.r11, D.int IntKind.i64 zr.r12]) (List.map encRule o)), (7, T.val (D.int IntKind.i64 ↑k)), (8, T.val (.bool t)), (31, T.val (D.int IntKind.i64 ↑l.length)), (32, T.val (D.int IntKind.i64 ↑k)), (35, T.val ((D.int IntKind.i64 0).slice (List.map (D.int IntKind.i64) (hidR l)))), (36, T.val (D.int IntKind.i64 ↑(hidR l).length)), (37, T.val (.int .i64 k1))]) (false) ?_ rfl ?_ ?_
      · simp [Weak, TW, encRules_eq, encQ8_eq, encRule_eq, encInts_eq]
      · first | exact trivial | (simp; omega) | simp
      rintro k1 t hk1 hs1 hi1
      try simp only at hi1
      -- region 10
      refine AWp.rseq E_ok [0, 1, 3, 4, 5, 6, 7, 8, 10, 11, 12, 13, 14, 15, 16, 17, 25, 31, 32, 33, 35, 36, 37, 38, 49] fun K hK => ?_
      simp [encRules_eq, encQ8_eq, encRule_eq, encInts_eq, h25, h33, hx, hxx]
      repeat refine ⟨by first | omega | assumption | decide | (simp only [maxLen]; omega) | (intros; omega), ?_⟩
      refine hK _ ?_
      clear hK K
      refine AWp.seq ?_
      refine AWp.cond rfl (fun h38 => ?_) (fun h38 => ?_)
      · try simp at h38
        obtain ⟨x1, hx1, hxx1, hd1⟩ := at_indexG (l := (hidR l)) h38
        rw [hd1] at hs1
        refine AWp.skip ?_
        repeat first | refine thenN ?_ | refine thenX ?_ | refine thenR ?_ | refine blockN ?_ | refine blockR ?_ | refine blockX ?_ | refine blockM rfl ?_
        refine AWp.seq ?_
        refine AWp.block ?_
        -- region 11
        refine AWp.rseq E_ok [0, 1, 3, 4, 5, 6, 7, 8, 10, 11, 12, 13, 14, 15, 16, 17, 25, 31, 32, 33, 35, 36, 37, 38, 49] fun K hK => ?_
        simp [encRules_eq, encQ8_eq, encRule_eq, encInts_eq, h25, h33, hx, hxx, h38, hx1, hxx1]
        repeat refine ⟨by first | omega | assumption | decide | (simp only [maxLen]; omega) | (intros; omega), ?_⟩
        refine hK _ ?_
        clear hK K
        -- region 12
        refine AWp.rend E_ok [0, 1, 3, 4, 5, 6, 7, 8, 10, 11, 12, 13, 14, 15, 16, 17, 25, 31, 32, 33, 35, 36, 37, 38, 49] fun K hK => ?_
        simp [encRules_eq, encQ8_eq, encRule_eq, encInts_eq, h25, h33, hx, hxx, h38, hx1, hxx1]
        repeat refine ⟨by first | omega | assumption | decide | (simp only [maxLen]; omega) | (intros; omega), ?_⟩
        refine hK _ ?_
        clear hK K
        repeat first | refine thenN ?_ | refine thenX ?_ | refine thenR ?_ | refine blockN ?_ | refine blockR ?_ | refine blockX ?_ | refine blockM rfl ?_
        -- region 13
        refine AWp.rend E_ok [0, 1, 3, 4, 5, 6, 7, 8, 10, 11, 12, 13, 14, 15, 16, 17, 25, 31, 32, 33, 35, 36, 37, 38, 49] fun K hK => ?_
        simp [encRules_eq, encQ8_eq, encRule_eq, encInts_eq, h25, h33, hx, hxx, h38, hx1, hxx1]
        repeat refine ⟨by first | omega | assumption | decide | (simp only [maxLen]; omega) | (intros; omega), ?_⟩
        refine hK _ ?_
        clear hK K
        repeat first | refine thenN ?_ | refine thenX ?_ | refine thenR ?_ | refine blockN ?_ | refine blockR ?_ | refine blockX ?_ | refine blockM rfl ?_
        have hw1 : IntKind.i64.wrap ((k1 : Int) + 1) = (k1 : Int) + 1 := by rw [wrap_i64] <;> omega
        simp [dropF, h25, h33] at hs1
        refine ⟨_, h38, hs1, ?_, ?_⟩
        · first | exact trivial | (simp; omega) | simp
        · simp [Weak, TW, hw1, encRules_eq, encQ8_eq, encRule_eq, encInts_eq]
      · try simp at h38
        obtain rfl : k1 = (hidR l).length := by omega
        simp [dropF] at hs1
        refine AWp.exit ?_
        repeat first | refine thenN ?_ | refine thenX ?_ | refine thenR ?_ | refine blockN ?_ | refine blockR ?_ | refine blockX ?_ | refine blockM rfl ?_
        -- region 14
        refine AWp.rseq E_ok [0, 1, 3, 4, 5, 6, 7, 8, 10, 11, 12, 13, 14, 15, 16, 17, 25, 31, 32, 33, 35, 36, 37, 38, 49] fun K hK => ?_
        simp [encRules_eq, encQ8_eq, encRule_eq, encInts_eq, h25, h33, hx, hxx, h38]
        repeat refine ⟨by first | omega | assumption | decide | (simp only [maxLen]; omega) | (intros; omega), ?_⟩
        refine hK _ ?_
        clear hK K
        refine AWp.cond rfl (fun h49 => ?_) (fun h49 => ?_)
        · try simp at h49
          have hc : ¬ (hidR l).contains (k : Int) = true := by rw [← dropF_eq, ← hs1]; simp [h49]
          -- region 15
          refine AWp.rend E_ok [0, 1, 3, 4, 5, 6, 7, 8, 10, 11, 12, 13, 14, 15, 16, 17, 25, 31, 32, 33, 35, 36, 37, 38, 49] fun K hK => ?_
          simp [encRules_eq, encQ8_eq, encRule_eq, encInts_eq, h25, h33, hx, hxx, h38, h49]
          repeat refine ⟨by first | omega | assumption | decide | (simp only [maxLen]; omega) | (intros; omega), ?_⟩
          refine hK _ ?_
          clear hK K
          repeat first | refine thenN ?_ | refine thenX ?_ | refine thenR ?_ | refine blockN ?_ | refine blockR ?_ | refine blockX ?_ | refine blockM rfl ?_
          -- region 16
          refine AWp.rend E_ok [0, 1, 3, 4, 5, 6, 7, 8, 10, 11, 12, 13, 14, 15, 16, 17, 25, 31, 32, 33, 35, 36, 37, 38, 49] fun K hK => ?_
          simp [encRules_eq, encQ8_eq, encRule_eq, encInts_eq, h25, h33, hx, hxx, h38, h49]
          repeat refine ⟨by first | omega | assumption | decide | (simp only [maxLen]; omega) | (intros; omega), ?_⟩
          refine hK _ ?_
          clear hK K
          repeat first | refine thenN ?_ | refine thenX ?_ | refine thenR ?_ | refine blockN ?_ | refine blockR ?_ | refine blockX ?_ | refine blockM rfl ?_
          have hw : IntKind.i64.wrap ((k : Int) + 1) = (k : Int) + 1 := by rw [wrap_i64] <;> omega
          rw [omF] at hs
          first | rw [if_pos hc] at hs | rw [if_neg hc] at hs
          refine ⟨_, h33, hs, ?_, ?_⟩
          · exact ⟨rfl, by first | omega | (simp; omega)⟩
          · simp [Weak, TW, hw, encRules_eq, encQ8_eq, encRule_eq, encInts_eq]
        · try simp at h49
          have hc : (hidR l).contains (k : Int) = true := by rw [← dropF_eq, ← hs1]; simpa using h49
          refine AWp.skip ?_
          repeat first | refine thenN ?_ | refine thenX ?_ | refine thenR ?_ | refine blockN ?_ | refine blockR ?_ | refine blockX ?_ | refine blockM rfl ?_
          -- region 16
          refine AWp.rend E_ok [0, 1, 3, 4, 5, 6, 7, 8, 10, 11, 12, 13, 14, 15, 16, 17, 25, 31, 32, 33, 35, 36, 37, 38, 49] fun K hK => ?_
          simp [encRules_eq, encQ8_eq, encRule_eq, encInts_eq, h25, h33, hx, hxx, h38, h49]
          repeat refine ⟨by first | omega | assumption | decide | (simp only [maxLen]; omega) | (intros; omega), ?_⟩
          refine hK _ ?_
          clear hK K
          repeat first | refine thenN ?_ | refine thenX ?_ | refine thenR ?_ | refine blockN ?_ | refine blockR ?_ | refine blockX ?_ | refine blockM rfl ?_
          have hw : IntKind.i64.wrap ((k : Int) + 1) = (k : Int) + 1 := by rw [wrap_i64] <;> omega
          rw [omF] at hs
          first | rw [if_pos hc] at hs | rw [if_neg hc] at hs
          refine ⟨_, h33, hs, ?_, ?_⟩
          · exact ⟨rfl, by first | omega | (simp; omega)⟩
          · simp [Weak, TW, hw, encRules_eq, encQ8_eq, encRule_eq, encInts_eq]
    · try simp at h33
      obtain rfl : k = l.length := by omega
      simp [omF] at hs
      refine AWp.exit ?_
      repeat first | refine thenN ?_ | refine thenX ?_ | refine thenR ?_ | refine blockN ?_ | refine blockR ?_ | refine blockX ?_ | refine blockM rfl ?_
      -- region 17
      subst hs
      refine AWp.rseqQ E_ok mixed [0, 1, 3, 4, 5, 6, 7, 8, 10, 11, 12, 13, 14, 15, 16, 17, 25, 31, 32, 33, 35, 36, 37, 38, 49] (by kernel_rfl) fun K hK => ?_
      simp [encRules_eq, encQ8_eq, encRule_eq, encInts_eq, h25, h33, e1, e2, e3]
      repeat refine ⟨by first | omega | assumption | decide | (simp only [maxLen]; omega) | (intros; omega), ?_⟩
      refine hK _ ?_
      clear hK K
      -- region 18
      refine AWp.rseq E_ok [0, 1, 3, 4, 5, 6, 7, 8, 10, 11, 12, 13, 14, 15, 16, 17, 25, 31, 32, 33, 35, 36, 37, 38, 49] fun K hK => ?_
      simp [encRules_eq, encQ8_eq, encRule_eq, encInts_eq, h25, h33, e1, e2, e3]
      repeat refine ⟨by first | omega | assumption | decide | (simp only [maxLen]; omega) | (intros; omega), ?_⟩
      refine meet.of (policy_Find l ⟨1 + q.p % 9, 1 + q.i % 9, 1 + q.b % 4⟩) ?_
      simp [encRules_eq, encQ8_eq, encRule_eq, encInts_eq, h25, h33, e1, e2, e3]
      repeat refine ⟨by first | omega | assumption | decide | (simp only [maxLen]; omega) | (intros; omega), ?_⟩
      refine hK _ ?_
      clear hK K
      -- region 19
      refine AWp.rseq E_ok [0, 1, 3, 4, 5, 6, 7, 8, 10, 11, 12, 13, 14, 15, 16, 17, 25, 31, 32, 33, 35, 36, 37, 38, 49] fun K hK => ?_
      simp [encRules_eq, encQ8_eq, encRule_eq, encInts_eq, h25, h33, e1, e2, e3]
      repeat refine ⟨by first | omega | assumption | decide | (simp only [maxLen]; omega) | (intros; omega), ?_⟩
      refine meet.of (policy_Find (omR l) ⟨1 + q.p % 9, 1 + q.i % 9, 1 + q.b % 4⟩) ?_
      simp [encRules_eq, encQ8_eq, encRule_eq, encInts_eq, h25, h33, e1, e2, e3]
      repeat refine ⟨by first | omega | assumption | decide | (simp only [maxLen]; omega) | (intros; omega), ?_⟩
      refine hK _ ?_
      clear hK K
      -- region 20
      obtain ⟨f1, f2⟩ := om_find hr (q := ⟨1 + q.p % 9, 1 + q.i % 9, 1 + q.b % 4⟩) (by simp only; omega) (by simp only; omega) (by simp only; omega)
      refine AWp.rseq E_ok [0, 1, 3, 4, 5, 6, 7, 8, 10, 11, 12, 13, 14, 15, 16, 17, 25, 31, 32, 33, 35, 36, 37, 38, 49] fun K hK => ?_
      simp [encRules_eq, encQ8_eq, encRule_eq, encInts_eq, h25, h33, e1, e2, e3]
      repeat refine ⟨by first | omega | assumption | decide | (simp only [maxLen]; omega) | (intros; omega), ?_⟩
      refine meet.of (law27_alive) ?_
      simp [encRules_eq, encQ8_eq, encRule_eq, encInts_eq, h25, h33, e1, e2, e3]
      repeat refine ⟨by first | omega | assumption | decide | (simp only [maxLen]; omega) | (intros; omega), ?_⟩
      refine hK _ ?_
      clear hK K
      refine AWp.ret ?_
      repeat first | refine thenN ?_ | refine thenX ?_ | refine thenR ?_ | refine blockN ?_ | refine blockR ?_ | refine blockX ?_ | refine blockM rfl ?_
      first | (simp [RetOk, RV]; done) | (simp [RetOk, RV, f1, f2, e4])
end Go.Proofs.Ytkdcnpdjmkoicaa

set_option maxRecDepth 100000
set_option linter.unusedSimpArgs false
set_option linter.unusedVariables false
namespace Go.Proofs.Ytkdcnpdjmkoicaa
open Go Ab Lib
theorem open_int : Opens Try.prog 3 (fun n => [D.int .i64 n]) (fun n => IntKind.min .i64 ≤ n ∧ n ≤ IntKind.max .i64) := Opens.int Try.underlying3
theorem openV_int : OpensV Try.prog 3 (fun n => D.int .i64 n) (fun n => IntKind.min .i64 ≤ n ∧ n ≤ IntKind.max .i64) := Opens.one open_int (cells_int' Try.underlying3)
theorem open_api_Errno : Opens Try.prog 23 (fun n => [D.int .i64 n]) (fun n => IntKind.min .i64 ≤ n ∧ n ≤ IntKind.max .i64) := Opens.int Try.underlying23
theorem openV_api_Errno : OpensV Try.prog 23 (fun n => D.int .i64 n) (fun n => IntKind.min .i64 ≤ n ∧ n ≤ IntKind.max .i64) := Opens.one open_api_Errno (cells_int' Try.underlying23)
theorem open_uint8 : Opens Try.prog 5 (fun n => [D.int .u8 n]) (fun n => IntKind.min .u8 ≤ n ∧ n ≤ IntKind.max .u8) := Opens.int Try.underlying5
theorem openV_uint8 : OpensV Try.prog 5 (fun n => D.int .u8 n) (fun n => IntKind.min .u8 ≤ n ∧ n ≤ IntKind.max .u8) := Opens.one open_uint8 (cells_int' Try.underlying5)
theorem open_bool : Opens Try.prog 4 (fun b => [D.bool b]) (fun _ => True) := Opens.bool Try.underlying4
theorem openV_bool : OpensV Try.prog 4 (fun b => D.bool b) (fun _ => True) := Opens.one open_bool (cells_bool' Try.underlying4)
theorem open_string : Opens Try.prog 9 (fun s => [D.str s]) (fun s => s.length ≤ Go.maxLen) := Opens.str Try.underlying9
theorem openV_string : OpensV Try.prog 9 (fun s => D.str s) (fun s => s.length ≤ Go.maxLen) := Opens.one open_string (cells_str' Try.underlying9)
theorem open_s_int : Opens Try.prog 34 (fun l : List Int => [encInts l]) (fun l => l.length ≤ Go.maxLen) :=
  (Opens.slice Try.underlying34 (by kernel_rfl) (by decide) open_int (D.int .i64) (fun _ => rfl) (.int .i64 0) rfl).map id (fun _ => rfl) (fun _ h => h.2)
theorem openV_s_int : OpensV Try.prog 34 encInts (fun l => l.length ≤ Go.maxLen) := Opens.one open_s_int (cells_slice' Try.underlying34)
theorem open_api_Rule : Opens Try.prog 28 (fun c : Rule => (encRule c).cells) (fun _ => True) :=
  (Opens.struct Try.underlying28 (OpensF.cons (n := 1) rfl (by kernel_rfl) open_int (fun _ => rfl) (OpensF.cons (n := 1) rfl (by kernel_rfl) open_int (fun _ => rfl) (OpensF.cons (n := 1) rfl (by kernel_rfl) open_int (fun _ => rfl) (OpensF.cons (n := 1) rfl (by kernel_rfl) open_int (fun _ => rfl) (OpensF.cons (n := 1) rfl (by kernel_rfl) open_int (fun _ => rfl) (OpensF.cons (n := 1) rfl (by kernel_rfl) open_int (fun _ => rfl) (OpensF.cons (n := 1) rfl (by kernel_rfl) open_int (fun _ => rfl) (OpensF.cons (n := 1) rfl (by kernel_rfl) open_int (fun _ => rfl) (OpensF.cons (n := 1) rfl (by kernel_rfl) open_int (fun _ => rfl) (OpensF.cons (n := 1) rfl (by kernel_rfl) open_int (fun _ => rfl) (OpensF.cons (n := 1) rfl (by kernel_rfl) open_int (fun _ => rfl) (OpensF.cons (n := 1) rfl (by kernel_rfl) open_int (fun _ => rfl) (OpensF.cons (n := 1) rfl (by kernel_rfl) open_int (fun _ => rfl) OpensF.nil))))))))))))) (fun _ => by kernel_rfl)).map (fun p => (⟨p.1, p.2.1, p.2.2.1, p.2.2.2.1, p.2.2.2.2.1, p.2.2.2.2.2.1, p.2.2.2.2.2.2.1, p.2.2.2.2.2.2.2.1, p.2.2.2.2.2.2.2.2.1, p.2.2.2.2.2.2.2.2.2.1, p.2.2.2.2.2.2.2.2.2.2.1, p.2.2.2.2.2.2.2.2.2.2.2.1, p.2.2.2.2.2.2.2.2.2.2.2.2.1⟩ : Rule)) (fun _ => rfl) (fun _ _ => trivial)
theorem openV_api_Rule : OpensV Try.prog 28 encRule (fun _ => True) := Opens.agg Try.underlying28 open_api_Rule
theorem open_api_Calendar : Opens Try.prog 36 (fun c : Cal => (encCal c).cells) (fun _ => True) :=
  (Opens.struct Try.underlying36 (OpensF.cons (n := 1) rfl (by kernel_rfl) open_int (fun _ => rfl) (OpensF.cons (n := 1) rfl (by kernel_rfl) open_s_int (fun _ => rfl) OpensF.nil)) (fun _ => by kernel_rfl)).map (fun p => (⟨p.1, p.2.1⟩ : Cal)) (fun _ => rfl) (fun _ _ => trivial)
theorem openV_api_Calendar : OpensV Try.prog 36 encCal (fun _ => True) := Opens.agg Try.underlying36 open_api_Calendar
theorem open_a3_int : Opens Try.prog 29 (fun q : Qry => [D.int .i64 q.p, D.int .i64 q.i, D.int .i64 q.b]) (fun _ => True) :=
  (Opens.arr (n := 3) Try.underlying29 (by kernel_rfl) (by kernel_rfl) open_int).mapOk (fun l => ⟨l.getD 0 0, l.getD 1 0, l.getD 2 0⟩) (fun l h => by obtain ⟨h1, _⟩ := h; match l, h1 with | [x0, x1, x2], _ => rfl) (fun _ _ => trivial)
theorem openV_a3_int : OpensV Try.prog 29 (fun q : Qry => D.agg [D.int .i64 q.p, D.int .i64 q.i, D.int .i64 q.b]) (fun _ => True) := Opens.aggA Try.underlying29 open_a3_int
theorem open_a3_uint8 : Opens Try.prog 54 (fun q : Qry => [D.int .u8 q.p, D.int .u8 q.i, D.int .u8 q.b]) (fun _ => True) :=
  (Opens.arr (n := 3) Try.underlying54 (by kernel_rfl) (by kernel_rfl) open_uint8).mapOk (fun l => ⟨l.getD 0 0, l.getD 1 0, l.getD 2 0⟩) (fun l h => by obtain ⟨h1, _⟩ := h; match l, h1 with | [x0, x1, x2], _ => rfl) (fun _ _ => trivial)
theorem openV_a3_uint8 : OpensV Try.prog 54 (fun q : Qry => D.agg [D.int .u8 q.p, D.int .u8 q.i, D.int .u8 q.b]) (fun _ => True) := Opens.aggA Try.underlying54 open_a3_uint8
theorem open_s_api_Rule : Opens Try.prog 22 (fun l : List Rule => [encRules l]) (fun l => l.length ≤ Go.maxLen) :=
  (Opens.slice Try.underlying22 (by kernel_rfl) (by decide) open_api_Rule encRule (fun _ => rfl) (encRule zr) rfl).map id (fun _ => rfl) (fun _ h => h.2)
theorem openV_s_api_Rule : OpensV Try.prog 22 encRules (fun l => l.length ≤ Go.maxLen) := Opens.one open_s_api_Rule (cells_slice' Try.underlying22)
theorem open_librarylaw27_Days : Opens Try.prog 38 (fun c : Days => (encDays c).cells) (fun _ => True) :=
  (Opens.struct Try.underlying38 (OpensF.cons (n := 1) rfl (by kernel_rfl) open_int (fun _ => rfl) (OpensF.cons (n := 1) rfl (by kernel_rfl) open_int (fun _ => rfl) OpensF.nil)) (fun _ => by kernel_rfl)).map (fun p => (⟨p.1, p.2.1⟩ : Days)) (fun _ => rfl) (fun _ _ => trivial)
theorem openV_librarylaw27_Days : OpensV Try.prog 38 encDays (fun _ => True) := Opens.agg Try.underlying38 open_librarylaw27_Days
theorem open_api_Loan : Opens Try.prog 45 (fun c : Loan => (encLoan c).cells) (fun _ => True) :=
  (Opens.struct Try.underlying45 (OpensF.cons (n := 1) rfl (by kernel_rfl) open_int (fun _ => rfl) (OpensF.cons (n := 1) rfl (by kernel_rfl) open_int (fun _ => rfl) (OpensF.cons (n := 1) rfl (by kernel_rfl) open_int (fun _ => rfl) (OpensF.cons (n := 1) rfl (by kernel_rfl) open_int (fun _ => rfl) (OpensF.cons (n := 1) rfl (by kernel_rfl) open_int (fun _ => rfl) (OpensF.cons (n := 1) rfl (by kernel_rfl) open_bool (fun _ => rfl) OpensF.nil)))))) (fun _ => by kernel_rfl)).map (fun p => (⟨p.1, p.2.1, p.2.2.1, p.2.2.2.1, p.2.2.2.2.1, p.2.2.2.2.2.1⟩ : Loan)) (fun _ => rfl) (fun _ _ => trivial)
theorem openV_api_Loan : OpensV Try.prog 45 encLoan (fun _ => True) := Opens.agg Try.underlying45 open_api_Loan
theorem open_librarylaw27_Renewal : Opens Try.prog 47 (fun c : Renewal => (encRenewal c).cells) (fun _ => True) :=
  (Opens.struct Try.underlying47 (OpensF.cons (n := 6) rfl (by kernel_rfl) open_api_Loan (fun _ => rfl) (OpensF.cons (n := 2) rfl (by kernel_rfl) open_librarylaw27_Days (fun _ => rfl) OpensF.nil)) (fun _ => by kernel_rfl)).map (fun p => (⟨p.1, p.2.1⟩ : Renewal)) (fun _ => rfl) (fun _ _ => trivial)
theorem openV_librarylaw27_Renewal : OpensV Try.prog 47 encRenewal (fun _ => True) := Opens.agg Try.underlying47 open_librarylaw27_Renewal

end Go.Proofs.Ytkdcnpdjmkoicaa
