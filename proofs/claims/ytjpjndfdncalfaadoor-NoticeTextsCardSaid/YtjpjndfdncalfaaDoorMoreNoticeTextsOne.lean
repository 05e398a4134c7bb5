/-
  What the functions compute that the statement reaches: contracts, and the plain laws between them. Conditions stand at each theorem.
-/
import Derived.Test.YtjpjndfdncalfaaDoorWalkSix
set_option linter.unusedVariables false
set_option linter.unusedSimpArgs false
set_option maxRecDepth 100000
set_option linter.unusedSimpArgs false
set_option linter.unusedVariables false
namespace Go.Proofs.YtjpjndfdncalfaaDoor
open Go Ab Pl
theorem ref35_Number (n : Int) : ACalls E.P 32 [.int .i64 n] (.d (.str (Go.Lib.itoa n))) := by
  refine ACalls.intro E_ok Tryd.func32 rfl rfl Tryd.ntmps32 Tryd.results32 (Nat.le_of_ble_eq_true rfl) fun hok base S0 w0 => ?_
  have hm := Ok_i64 (hok (.int .i64 n) (by simp))
  -- region 0
  refine AWp.rseq E_ok [0, 2, 3, 4, 5, 7, 9, 11, 15] fun K hK => ?_
  simp
  try simp (disch := omega) only [wrap_i64]
  repeat refine ⟨by first | omega | assumption | (simp only [maxLen]; omega) | (intros; omega) | decide, ?_⟩
  refine hK _ ?_
  clear hK K
  refine AWp.seq ?_
  -- region 1
  refine AWp.rseq E_ok [0, 2, 3, 4, 5, 7, 9, 11, 15] fun K hK => ?_
  simp
  try simp (disch := omega) only [wrap_i64]
  repeat refine ⟨by first | omega | assumption | (simp only [maxLen]; omega) | (intros; omega) | decide, ?_⟩
  refine hK _ ?_
  clear hK K
  refine AWp.cond rfl (fun h7 => ?_) (fun h7 => ?_)
  · try simp at h7
    have hb : Go.Lib.itoa n = [48] := by rw [h7, itoa_pos (by omega), Go.Lib.decDigits]; rfl
    -- region 2
    refine AWp.rseq E_ok [0, 2, 3, 4, 5, 7, 9, 11, 15] fun K hK => ?_
    simp
    try simp (disch := omega) only [wrap_i64]
    repeat refine ⟨by first | omega | assumption | (simp only [maxLen]; omega) | (intros; omega) | decide, ?_⟩
    refine hK _ ?_
    clear hK K
    refine AWp.ret ?_
    repeat first | refine thenN ?_ | refine thenX ?_ | refine thenR ?_ | refine blockN ?_ | refine blockR ?_ | refine blockX ?_ | refine blockM rfl ?_
    first | (simp [RetOk, RV, hb]; done) | simp [RetOk, RV, ho]
  · try simp at h7
    obtain ⟨sg, hsg⟩ : ∃ z, z = (if n < 0 then [45] else [] : List UInt8) := ⟨_, rfl⟩
    have hsl : sg.length ≤ 1 := by rw [hsg]; split <;> simp
    refine AWp.skip ?_
    repeat first | refine thenN ?_ | refine thenX ?_ | refine thenR ?_ | refine blockN ?_ | refine blockR ?_ | refine blockX ?_ | refine blockM rfl ?_
    -- region 3
    refine AWp.rseq E_ok [0, 2, 3, 4, 5, 7, 9, 11, 15] fun K hK => ?_
    simp
    try simp (disch := omega) only [wrap_i64]
    repeat refine ⟨by first | omega | assumption | (simp only [maxLen]; omega) | (intros; omega) | decide, ?_⟩
    refine hK _ ?_
    clear hK K
    -- region 4
    refine AWp.rseq E_ok [0, 2, 3, 4, 5, 7, 9, 11, 15] fun K hK => ?_
    simp
    try simp (disch := omega) only [wrap_i64]
    repeat refine ⟨by first | omega | assumption | (simp only [maxLen]; omega) | (intros; omega) | decide, ?_⟩
    refine hK _ ?_
    clear hK K
    refine AWp.join (ι := Unit) (fun _ => [(0, T.val (D.int IntKind.i64 n)), (3, T.val (D.str [])), (4, T.val (.str sg))]) ?_ ?_
    · skip
      -- region 5
      refine AWp.rseq E_ok [0, 2, 3, 4, 5, 7, 9, 11, 15] fun K hK => ?_
      simp
      try simp (disch := omega) only [wrap_i64]
      repeat refine ⟨by first | omega | assumption | (simp only [maxLen]; omega) | (intros; omega) | decide, ?_⟩
      refine hK _ ?_
      clear hK K
      refine AWp.cond rfl (fun h9 => ?_) (fun h9 => ?_)
      · try simp at h9
        have e1 : sg = [45] := by rw [hsg]; exact if_pos h9
        -- region 6
        refine AWp.rend E_ok [0, 2, 3, 4, 5, 7, 9, 11, 15] fun K hK => ?_
        simp [e1]
        try simp (disch := omega) only [wrap_i64]
        repeat refine ⟨by first | omega | assumption | (simp only [maxLen]; omega) | (intros; omega) | decide, ?_⟩
        refine hK _ ?_
        clear hK K
        repeat first | refine thenN ?_ | refine thenX ?_ | refine thenR ?_ | refine blockN ?_ | refine blockR ?_ | refine blockX ?_ | refine blockM rfl ?_
        refine ⟨(), ?_⟩
        simp [Weak, TW, e1]
      · try simp at h9
        have e1 : sg = [] := by rw [hsg]; exact if_neg (by omega)
        refine AWp.skip ?_
        repeat first | refine thenN ?_ | refine thenX ?_ | refine thenR ?_ | refine blockN ?_ | refine blockR ?_ | refine blockX ?_ | refine blockM rfl ?_
        refine ⟨(), ?_⟩
        simp [Weak, TW, e1]
    rintro ⟨⟩
    try simp only
    refine AWp.seq ?_
    refine AWp.block ?_
    refine AWp.loop (ι := { x : Int × List UInt8 // NumI n x.1 x.2 }) (fun x => match x with | ⟨⟨y, o⟩, hd⟩ => [(0, T.val (.int .i64 y)), (3, T.val (.str o)), (4, T.val (D.str sg)), (5, T.junk)]) (fun x => match x with | ⟨⟨y, o⟩, hd⟩ => y.natAbs) ⟨(n, []), NumI.start h7⟩ ?_ ?_
    · simp [Weak, TW]
    rintro ⟨⟨y, o⟩, hd⟩
    simp only
    try simp only at hd
    refine AWp.seq ?_
    -- region 7
    refine AWp.rseq E_ok [0, 2, 3, 4, 5, 7, 9, 11, 15] fun K hK => ?_
    simp
    try simp (disch := omega) only [wrap_i64]
    repeat refine ⟨by first | omega | assumption | (simp only [maxLen]; omega) | (intros; omega) | decide, ?_⟩
    refine hK _ ?_
    clear hK K
    refine AWp.cond rfl (fun h11 => ?_) (fun h11 => ?_)
    · try simp at h11
      have hln := hd.len hm.1 hm.2
      have hd1 : y.natAbs ≤ n.natAbs := hd.1
      have t1 : (y.tmod 10).natAbs = y.natAbs % 10 := Int.natAbs_tmod y 10
      obtain ⟨t, ht⟩ : ∃ z, z = y.tmod 10 := ⟨_, rfl⟩
      obtain ⟨y2, hy2⟩ : ∃ z, z = y.tdiv 10 := ⟨_, rfl⟩
      rw [← ht] at t1
      have ht' := ht.symm
      have hy2' := hy2.symm
      have hst := hd.step (d := if t < 0 then -t else t) h11 (by rw [ht])
      have htr : -10 < t ∧ t < 10 := by omega
      have hdg := num_dig (d := if t < 0 then -t else t) (by split <;> omega) (by split <;> omega)
      have hdw : (y.tdiv 10).natAbs = y.natAbs / 10 := Int.natAbs_tdiv y 10
      rw [← hy2] at hst hdw
      have w3 : IntKind.i64.wrap y2 = y2 := wrap_i64 (by omega) (by omega)
      refine AWp.skip ?_
      repeat first | refine thenN ?_ | refine thenX ?_ | refine thenR ?_ | refine blockN ?_ | refine blockR ?_ | refine blockX ?_ | refine blockM rfl ?_
      refine AWp.block ?_
      -- region 8
      refine AWp.rseq E_ok [0, 2, 3, 4, 5, 7, 9, 11, 15] fun K hK => ?_
      simp [ht', hy2', w3]
      try simp (disch := omega) only [wrap_i64]
      repeat refine ⟨by first | omega | assumption | (simp only [maxLen]; omega) | (intros; omega) | decide, ?_⟩
      refine hK _ ?_
      clear hK K
      refine AWp.seq ?_
      -- region 9
      refine AWp.rseq E_ok [0, 2, 3, 4, 5, 7, 9, 11, 15] fun K hK => ?_
      simp [ht', hy2', w3]
      try simp (disch := omega) only [wrap_i64]
      repeat refine ⟨by first | omega | assumption | (simp only [maxLen]; omega) | (intros; omega) | decide, ?_⟩
      refine hK _ ?_
      clear hK K
      refine AWp.cond rfl (fun h15 => ?_) (fun h15 => ?_)
      · try simp at h15
        rw [if_pos h15] at hst hdg
        have wn : IntKind.i64.wrap (-t) = -t := wrap_i64 (by omega) (by omega)
        rw [← hdg] at hst
        have w4 : IntKind.i64.wrap (48 + -t) = 48 + -t := wrap_i64 (by omega) (by omega)
        rw [w4] at hst
        -- region 10
        refine AWp.rend E_ok [0, 2, 3, 4, 5, 7, 9, 11, 15] fun K hK => ?_
        simp [ht', hy2', w3, wn, w4]
        try simp (disch := omega) only [wrap_i64]
        repeat refine ⟨by first | omega | assumption | (simp only [maxLen]; omega) | (intros; omega) | decide, ?_⟩
        refine hK _ ?_
        clear hK K
        repeat first | refine thenN ?_ | refine thenX ?_ | refine thenR ?_ | refine blockN ?_ | refine blockR ?_ | refine blockX ?_ | refine blockM rfl ?_
        -- region 11
        refine AWp.rseq E_ok [0, 2, 3, 4, 5, 7, 9, 11, 15] fun K hK => ?_
        simp [ht', hy2', w3, wn, w4]
        try simp (disch := omega) only [wrap_i64]
        repeat refine ⟨by first | omega | assumption | (simp only [maxLen]; omega) | (intros; omega) | decide, ?_⟩
        refine hK _ ?_
        clear hK K
        -- region 12
        refine AWp.rend E_ok [0, 2, 3, 4, 5, 7, 9, 11, 15] fun K hK => ?_
        simp [ht', hy2', w3, wn, w4]
        try simp (disch := omega) only [wrap_i64]
        repeat refine ⟨by first | omega | assumption | (simp only [maxLen]; omega) | (intros; omega) | decide, ?_⟩
        refine hK _ ?_
        clear hK K
        repeat first | refine thenN ?_ | refine thenX ?_ | refine thenR ?_ | refine blockN ?_ | refine blockR ?_ | refine blockX ?_ | refine blockM rfl ?_
        refine ⟨⟨(_, _), hst⟩, ?_, by dsimp only; omega⟩
        try dsimp only
        simp [Weak, TW]
      · try simp at h15
        rw [if_neg (by omega)] at hst hdg
        rw [← hdg] at hst
        have w4 : IntKind.i64.wrap (48 + t) = 48 + t := wrap_i64 (by omega) (by omega)
        rw [w4] at hst
        refine AWp.skip ?_
        repeat first | refine thenN ?_ | refine thenX ?_ | refine thenR ?_ | refine blockN ?_ | refine blockR ?_ | refine blockX ?_ | refine blockM rfl ?_
        -- region 11
        refine AWp.rseq E_ok [0, 2, 3, 4, 5, 7, 9, 11, 15] fun K hK => ?_
        simp [ht', hy2', w3, w4]
        try simp (disch := omega) only [wrap_i64]
        repeat refine ⟨by first | omega | assumption | (simp only [maxLen]; omega) | (intros; omega) | decide, ?_⟩
        refine hK _ ?_
        clear hK K
        -- region 12
        refine AWp.rend E_ok [0, 2, 3, 4, 5, 7, 9, 11, 15] fun K hK => ?_
        simp [ht', hy2', w3, w4]
        try simp (disch := omega) only [wrap_i64]
        repeat refine ⟨by first | omega | assumption | (simp only [maxLen]; omega) | (intros; omega) | decide, ?_⟩
        refine hK _ ?_
        clear hK K
        repeat first | refine thenN ?_ | refine thenX ?_ | refine thenR ?_ | refine blockN ?_ | refine blockR ?_ | refine blockX ?_ | refine blockM rfl ?_
        refine ⟨⟨(_, _), hst⟩, ?_, by dsimp only; omega⟩
        try dsimp only
        simp [Weak, TW]
    · try simp at h11
      have hln := hd.len hm.1 hm.2
      have ho : sg ++ o = Go.Lib.itoa n := by rw [hsg]; obtain rfl : y = 0 := (by simpa using h11); exact hd.done
      refine AWp.exit ?_
      repeat first | refine thenN ?_ | refine thenX ?_ | refine thenR ?_ | refine blockN ?_ | refine blockR ?_ | refine blockX ?_ | refine blockM rfl ?_
      -- region 13
      refine AWp.rseq E_ok [0, 2, 3, 4, 5, 7, 9, 11, 15] fun K hK => ?_
      simp
      try simp (disch := omega) only [wrap_i64]
      repeat refine ⟨by first | omega | assumption | (simp only [maxLen]; omega) | (intros; omega) | decide, ?_⟩
      refine hK _ ?_
      clear hK K
      refine AWp.ret ?_
      repeat first | refine thenN ?_ | refine thenX ?_ | refine thenR ?_ | refine blockN ?_ | refine blockR ?_ | refine blockX ?_ | refine blockM rfl ?_
      first | (simp [RetOk, RV, hb]; done) | simp [RetOk, RV, ho]
end Go.Proofs.YtjpjndfdncalfaaDoor

set_option maxRecDepth 100000
set_option linter.unusedSimpArgs false
set_option linter.unusedVariables false
namespace Go.Proofs.YtjpjndfdncalfaaDoor
open Go Ab Pl
theorem ref28_At (l : List Patr) (i : Int) : ACalls E.P 44 [encPatrs l, .int .i64 i] (.d (.int .i64 (idxP (fun x => decide (x.id = i)) 0 l))) := by
  refine ACalls.intro E_ok Tryd.func44 rfl rfl Tryd.ntmps44 Tryd.results44 (Nat.le_of_ble_eq_true rfl) fun hok base S0 w0 => ?_
  have hl : l.length ≤ 9223372036854775807 := by have := (Ok_slice (hok (encPatrs l) (by simp))).1; simpa using this
  -- region 0
  refine AWp.rseq E_ok [0, 1, 4, 5, 9, 18] fun K hK => ?_
  simp [encPatrs_eq, encPatr_eq]
  repeat refine ⟨by first | omega | assumption | (simp only [maxLen]; omega) | (intros; omega) | decide, ?_⟩
  refine hK _ ?_
  clear hK K
  refine AWp.seq ?_
  -- region 1
  refine AWp.rseq E_ok [0, 1, 4, 5, 9, 18] fun K hK => ?_
  simp [encPatrs_eq, encPatr_eq]
  repeat refine ⟨by first | omega | assumption | (simp only [maxLen]; omega) | (intros; omega) | decide, ?_⟩
  refine hK _ ?_
  clear hK K
  refine AWp.block ?_
  refine AWp.range (l := l) (F := idxP (fun x => decide (x.id = i))) (tot := idxP (fun x => decide (x.id = i)) 0 l) (fun k y => match y with | q => q = (k : Int)) (fun k y => match y with | q => [(0, T.val ((D.agg [D.int IntKind.i64 zPatr.id, D.int IntKind.i64 zPatr.kind, D.int IntKind.i64 zPatr.br, D.int IntKind.i64 zPatr.til, D.bool zPatr.stop, D.str zPatr.name]).slice (List.map encPatr l))), (1, T.val (D.int IntKind.i64 i)), (5, T.val (.int .i64 k))]) (0) ?_ rfl ?_ ?_
  · simp [Weak, TW, encPatrs_eq, encPatr_eq]
  · first | exact trivial | (simp; omega) | simp
  rintro k q hk hs hi
  try simp only at hi
  refine AWp.seq ?_
  -- region 2
  refine AWp.rseq E_ok [0, 1, 4, 5, 9, 18] fun K hK => ?_
  simp [encPatrs_eq, encPatr_eq]
  repeat refine ⟨by first | omega | assumption | (simp only [maxLen]; omega) | (intros; omega) | decide, ?_⟩
  refine hK _ ?_
  clear hK K
  refine AWp.cond rfl (fun h9 => ?_) (fun h9 => ?_)
  · try simp at h9
    obtain ⟨x, hx, hxx, hd⟩ := at_indexG (l := l) h9
    rw [hd] at hs
    refine AWp.skip ?_
    repeat first | refine thenN ?_ | refine thenX ?_ | refine thenR ?_ | refine blockN ?_ | refine blockR ?_ | refine blockX ?_ | refine blockM rfl ?_
    refine AWp.seq ?_
    refine AWp.block ?_
    -- region 4
    refine AWp.rseq E_ok [0, 1, 4, 5, 9, 18] fun K hK => ?_
    simp [encPatrs_eq, encPatr_eq, h9, hx, hxx]
    repeat refine ⟨by first | omega | assumption | (simp only [maxLen]; omega) | (intros; omega) | decide, ?_⟩
    refine hK _ ?_
    clear hK K
    refine AWp.cond rfl (fun h18 => ?_) (fun h18 => ?_)
    · try simp at h18
      -- region 5
      refine AWp.rseq E_ok [0, 1, 4, 5, 9, 18] fun K hK => ?_
      simp [encPatrs_eq, encPatr_eq, h9, hx, hxx, h18]
      repeat refine ⟨by first | omega | assumption | (simp only [maxLen]; omega) | (intros; omega) | decide, ?_⟩
      refine hK _ ?_
      clear hK K
      refine AWp.ret ?_
      repeat first | refine thenN ?_ | refine thenX ?_ | refine thenR ?_ | refine blockN ?_ | refine blockR ?_ | refine blockX ?_ | refine blockM rfl ?_
      simp [idxP, h18] at hs
      first | (simp [RetOk, RV, ← hs]; done) | (simp [RetOk, RV, ← hs, hi])
    · try simp at h18
      refine AWp.skip ?_
      repeat first | refine thenN ?_ | refine thenX ?_ | refine thenR ?_ | refine blockN ?_ | refine blockR ?_ | refine blockX ?_ | refine blockM rfl ?_
      -- region 3
      refine AWp.rend E_ok [0, 1, 4, 5, 9, 18] fun K hK => ?_
      simp [encPatrs_eq, encPatr_eq, h9, hx, hxx, h18]
      repeat refine ⟨by first | omega | assumption | (simp only [maxLen]; omega) | (intros; omega) | decide, ?_⟩
      refine hK _ ?_
      clear hK K
      repeat first | refine thenN ?_ | refine thenX ?_ | refine thenR ?_ | refine blockN ?_ | refine blockR ?_ | refine blockX ?_ | refine blockM rfl ?_
      have hw : IntKind.i64.wrap ((k : Int) + 1) = (k : Int) + 1 := by rw [wrap_i64] <;> omega
      simp [idxP, h18] at hs
      refine ⟨_, h9, hs, ?_, ?_⟩
      · first | exact trivial | (simp; omega) | simp
      · simp [Weak, TW, hw, encPatrs_eq, encPatr_eq]
  · try simp at h9
    obtain rfl : k = l.length := by omega
    simp [idxP] at hs
    refine AWp.exit ?_
    repeat first | refine thenN ?_ | refine thenX ?_ | refine thenR ?_ | refine blockN ?_ | refine blockR ?_ | refine blockX ?_ | refine blockM rfl ?_
    -- region 6
    refine AWp.rseq E_ok [0, 1, 4, 5, 9, 18] fun K hK => ?_
    simp [encPatrs_eq, encPatr_eq, h9]
    repeat refine ⟨by first | omega | assumption | (simp only [maxLen]; omega) | (intros; omega) | decide, ?_⟩
    refine hK _ ?_
    clear hK K
    refine AWp.ret ?_
    repeat first | refine thenN ?_ | refine thenX ?_ | refine thenR ?_ | refine blockN ?_ | refine blockR ?_ | refine blockX ?_ | refine blockM rfl ?_
    first | (simp [RetOk, RV, ← hs]; done) | (simp [RetOk, RV, ← hs, hi])
end Go.Proofs.YtjpjndfdncalfaaDoor

set_option maxRecDepth 100000
set_option linter.unusedSimpArgs false
set_option linter.unusedVariables false
namespace Go.Proofs.YtjpjndfdncalfaaDoor
open Go Ab Pl
theorem ref28_Get (l : List Patr) (i : Int) : ACalls E.P 33 [encPatrs l, .int .i64 i] (.tup [encPatr ((getP l i).getD zPatr), .bool (getP l i).isSome]) := by
  refine ACalls.intro E_ok Tryd.func33 rfl rfl Tryd.ntmps33 Tryd.results33 (Nat.le_of_ble_eq_true rfl) fun hok base S0 w0 => ?_
  -- region 0
  refine AWp.rseq E_ok [0, 1, 4, 5, 6, 11] fun K hK => ?_
  simp [encPatrs_eq, encPatr_eq]
  repeat refine ⟨by first | omega | assumption | (simp only [maxLen]; omega) | (intros; omega) | decide, ?_⟩
  refine hK _ ?_
  clear hK K
  rcases getP_cs l i with ⟨e1, hf⟩ | ⟨j, x, e1, hx, hf⟩
  · skip
    skip
    -- region 1
    refine AWp.rseq E_ok [0, 1, 4, 5, 6, 11] fun K hK => ?_
    simp [encPatrs_eq, encPatr_eq, e1, hf]
    repeat refine ⟨by first | omega | assumption | (simp only [maxLen]; omega) | (intros; omega) | decide, ?_⟩
    refine meet.of (ref28_At l i) ?_
    simp [encPatrs_eq, encPatr_eq, e1, hf]
    repeat refine ⟨by first | omega | assumption | (simp only [maxLen]; omega) | (intros; omega) | decide, ?_⟩
    refine hK _ ?_
    clear hK K
    refine AWp.seq ?_
    -- region 2
    refine AWp.rseq E_ok [0, 1, 4, 5, 6, 11] fun K hK => ?_
    simp [encPatrs_eq, encPatr_eq, e1, hf]
    repeat refine ⟨by first | omega | assumption | (simp only [maxLen]; omega) | (intros; omega) | decide, ?_⟩
    refine hK _ ?_
    clear hK K
    refine AWp.cond rfl (fun h11 => ?_) (fun h11 => ?_)
    · try simp at h11
      -- region 3
      refine AWp.rseq E_ok [0, 1, 4, 5, 6, 11] fun K hK => ?_
      simp [encPatrs_eq, encPatr_eq, e1, hf, h11]
      repeat refine ⟨by first | omega | assumption | (simp only [maxLen]; omega) | (intros; omega) | decide, ?_⟩
      refine hK _ ?_
      clear hK K
      refine AWp.ret ?_
      repeat first | refine thenN ?_ | refine thenX ?_ | refine thenR ?_ | refine blockN ?_ | refine blockR ?_ | refine blockX ?_ | refine blockM rfl ?_
      simp [RetOk, RV, RVs, hf, zPatr, encPatr_eq]
    · exact absurd h11 (by simp)
  · skip
    have ex : (l.map encPatr)[j]? = some (.agg [.int .i64 x.id, .int .i64 x.kind, .int .i64 x.br, .int .i64 x.til, .bool x.stop, .str x.name]) := by simp [hx, encPatr_eq]
    have hjl : j < l.length := (List.getElem?_eq_some_iff.1 hx).1
    -- region 1
    refine AWp.rseq E_ok [0, 1, 4, 5, 6, 11] fun K hK => ?_
    simp [encPatrs_eq, encPatr_eq, e1, hf, ex]
    repeat refine ⟨by first | omega | assumption | (simp only [maxLen]; omega) | (intros; omega) | decide, ?_⟩
    refine meet.of (ref28_At l i) ?_
    simp [encPatrs_eq, encPatr_eq, e1, hf, ex]
    repeat refine ⟨by first | omega | assumption | (simp only [maxLen]; omega) | (intros; omega) | decide, ?_⟩
    refine hK _ ?_
    clear hK K
    refine AWp.seq ?_
    -- region 2
    refine AWp.rseq E_ok [0, 1, 4, 5, 6, 11] fun K hK => ?_
    simp [encPatrs_eq, encPatr_eq, e1, hf, ex]
    repeat refine ⟨by first | omega | assumption | (simp only [maxLen]; omega) | (intros; omega) | decide, ?_⟩
    refine hK _ ?_
    clear hK K
    refine AWp.cond rfl (fun h11 => ?_) (fun h11 => ?_)
    · exact absurd h11 (by simp)
    · try simp at h11
      refine AWp.skip ?_
      repeat first | refine thenN ?_ | refine thenX ?_ | refine thenR ?_ | refine blockN ?_ | refine blockR ?_ | refine blockX ?_ | refine blockM rfl ?_
      -- region 4
      refine AWp.rseq E_ok [0, 1, 4, 5, 6, 11] fun K hK => ?_
      simp [encPatrs_eq, encPatr_eq, e1, hf, ex, h11]
      repeat refine ⟨by first | omega | assumption | (simp only [maxLen]; omega) | (intros; omega) | decide, ?_⟩
      refine hK _ ?_
      clear hK K
      refine AWp.ret ?_
      repeat first | refine thenN ?_ | refine thenX ?_ | refine thenR ?_ | refine blockN ?_ | refine blockR ?_ | refine blockX ?_ | refine blockM rfl ?_
      simp [RetOk, RV, RVs, hf, zPatr, encPatr_eq]
end Go.Proofs.YtjpjndfdncalfaaDoor

set_option maxRecDepth 100000
set_option linter.unusedSimpArgs false
set_option linter.unusedVariables false
namespace Go.Proofs.YtjpjndfdncalfaaDoor
open Go Ab Pl
theorem ref03_Is (n : Int) : ACalls E.P 21 [.int .i64 n] (.d (.bool (isDay n))) := by
  refine ACalls.intro E_ok Tryd.func21 rfl rfl Tryd.ntmps21 Tryd.results21 (Nat.le_of_ble_eq_true rfl) fun hok base S0 w0 => ?_
  -- region 0
  refine AWp.rseq E_ok [0, 2] fun K hK => ?_
  simp
  repeat refine ⟨by first | omega | assumption | (simp only [maxLen]; omega) | (intros; omega) | decide, ?_⟩
  refine hK _ ?_
  clear hK K
  -- region 1
  refine AWp.rseq E_ok [0, 2] fun K hK => ?_
  simp
  repeat refine ⟨by first | omega | assumption | (simp only [maxLen]; omega) | (intros; omega) | decide, ?_⟩
  refine hK _ ?_
  clear hK K
  refine AWp.ret ?_
  repeat first | refine thenN ?_ | refine thenX ?_ | refine thenR ?_ | refine blockN ?_ | refine blockR ?_ | refine blockX ?_ | refine blockM rfl ?_
  simp [RetOk, RV, isDay]
end Go.Proofs.YtjpjndfdncalfaaDoor

set_option maxRecDepth 100000
set_option linter.unusedSimpArgs false
set_option linter.unusedVariables false
namespace Go.Proofs.YtjpjndfdncalfaaDoor
open Go Ab Pl
theorem ref03_Length (y m : Int) : ACalls E.P 55 [.int .i64 y, .int .i64 m] (.d (.int .i64 (mlenD y m))) := by
  refine ACalls.intro E_ok Tryd.func55 rfl rfl Tryd.ntmps55 Tryd.results55 (Nat.le_of_ble_eq_true rfl) fun hok base S0 w0 => ?_
  -- region 0
  refine AWp.rseq E_ok [0, 1, 4, 5, 19, 34] fun K hK => ?_
  simp
  repeat refine ⟨by first | omega | assumption | (simp only [maxLen]; omega) | (intros; omega) | decide, ?_⟩
  refine hK _ ?_
  clear hK K
  refine AWp.seq ?_
  -- region 1
  refine AWp.rseq E_ok [0, 1, 4, 5, 19, 34] fun K hK => ?_
  simp
  repeat refine ⟨by first | omega | assumption | (simp only [maxLen]; omega) | (intros; omega) | decide, ?_⟩
  refine hK _ ?_
  clear hK K
  refine AWp.cond rfl (fun h19 => ?_) (fun h19 => ?_)
  · try simp at h19
    -- region 2
    refine AWp.rseq E_ok [0, 1, 4, 5, 19, 34] fun K hK => ?_
    simp
    repeat refine ⟨by first | omega | assumption | (simp only [maxLen]; omega) | (intros; omega) | decide, ?_⟩
    refine hK _ ?_
    clear hK K
    refine AWp.ret ?_
    repeat first | refine thenN ?_ | refine thenX ?_ | refine thenR ?_ | refine blockN ?_ | refine blockR ?_ | refine blockX ?_ | refine blockM rfl ?_
    first | (rw [mlen_out (by omega)]; simp [RetOk, RV, RVs]; done) | (rw [hq]; simp [RetOk, RV, RVs]; done)
  · try simp at h19
    refine AWp.skip ?_
    repeat first | refine thenN ?_ | refine thenX ?_ | refine thenR ?_ | refine blockN ?_ | refine blockR ?_ | refine blockX ?_ | refine blockM rfl ?_
    refine AWp.seq ?_
    -- region 3
    refine AWp.rseq E_ok [0, 1, 4, 5, 19, 34] fun K hK => ?_
    simp
    repeat refine ⟨by first | omega | assumption | (simp only [maxLen]; omega) | (intros; omega) | decide, ?_⟩
    refine hK _ ?_
    clear hK K
    refine AWp.cond rfl (fun h34 => ?_) (fun h34 => ?_)
    · try simp at h34
      have hlp := (leap_iff (y := y) (by omega) (by omega)).2
      have ht : y.tmod 4 = y % 4 := Int.tmod_eq_emod_of_nonneg (by omega)
      have hq := mlen_29 (y := y) (m := m) (by omega) (by omega) (by omega) (hlp (by omega))
      -- region 4
      refine AWp.rseq E_ok [0, 1, 4, 5, 19, 34] fun K hK => ?_
      simp
      repeat refine ⟨by first | omega | assumption | (simp only [maxLen]; omega) | (intros; omega) | decide, ?_⟩
      refine hK _ ?_
      clear hK K
      refine AWp.ret ?_
      repeat first | refine thenN ?_ | refine thenX ?_ | refine thenR ?_ | refine blockN ?_ | refine blockR ?_ | refine blockX ?_ | refine blockM rfl ?_
      first | (rw [mlen_out (by omega)]; simp [RetOk, RV, RVs]; done) | (rw [hq]; simp [RetOk, RV, RVs]; done)
    · try simp at h34
      have hlp := (leap_iff (y := y) (by omega) (by omega)).1
      have ht : y.tmod 4 = y % 4 := Int.tmod_eq_emod_of_nonneg (by omega)
      have hq := mlen_tbl (y := y) (m := m) (by omega) (by omega) (by omega) (by omega) (fun hh => by have := hlp hh.2; omega)
      have e1 : IntKind.i64.wrap (m - 1) = m - 1 := by rw [wrap_i64] <;> omega
      have tg := tbl_row (m := m) (by omega)
      refine AWp.skip ?_
      repeat first | refine thenN ?_ | refine thenX ?_ | refine thenR ?_ | refine blockN ?_ | refine blockR ?_ | refine blockX ?_ | refine blockM rfl ?_
      -- region 5
      refine AWp.rseq E_ok [0, 1, 4, 5, 19, 34] fun K hK => ?_
      simp [e1, tg]
      repeat refine ⟨by first | omega | assumption | (simp only [maxLen]; omega) | (intros; omega) | decide, ?_⟩
      refine hK _ ?_
      clear hK K
      -- region 6
      refine AWp.rseq E_ok [0, 1, 4, 5, 19, 34] fun K hK => ?_
      simp [e1, tg]
      repeat refine ⟨by first | omega | assumption | (simp only [maxLen]; omega) | (intros; omega) | decide, ?_⟩
      refine hK _ ?_
      clear hK K
      refine AWp.ret ?_
      repeat first | refine thenN ?_ | refine thenX ?_ | refine thenR ?_ | refine blockN ?_ | refine blockR ?_ | refine blockX ?_ | refine blockM rfl ?_
      first | (rw [mlen_out (by omega)]; simp [RetOk, RV, RVs]; done) | (rw [hq]; simp [RetOk, RV, RVs]; done)
end Go.Proofs.YtjpjndfdncalfaaDoor

set_option maxRecDepth 100000
set_option linter.unusedSimpArgs false
set_option linter.unusedVariables false
namespace Go.Proofs.YtjpjndfdncalfaaDoor
open Go Ab Pl
theorem ref03_Year (y : Int) (hy : 1900 ≤ y ∧ y ≤ 2199) : ACalls E.P 54 [.int .i64 y] (.d (.int .i64 (yearD y))) := by
  refine ACalls.intro E_ok Tryd.func54 rfl rfl Tryd.ntmps54 Tryd.results54 (Nat.le_of_ble_eq_true rfl) fun hok base S0 w0 => ?_
  have hl : (mlenD y 2 = 29) ↔ leapB y = true := by rw [mlen_ok hy.1 hy.2 (by omega) (by omega)]; cases leapB y <;> simp [tblD]
  -- region 0
  refine AWp.rseq E_ok [0, 2, 5] fun K hK => ?_
  simp
  repeat refine ⟨by first | omega | assumption | (simp only [maxLen]; omega) | (intros; omega) | decide, ?_⟩
  refine hK _ ?_
  clear hK K
  refine AWp.seq ?_
  -- region 1
  refine AWp.rseq E_ok [0, 2, 5] fun K hK => ?_
  simp
  repeat refine ⟨by first | omega | assumption | (simp only [maxLen]; omega) | (intros; omega) | decide, ?_⟩
  refine meet.of (ref03_Length y 2) ?_
  simp
  repeat refine ⟨by first | omega | assumption | (simp only [maxLen]; omega) | (intros; omega) | decide, ?_⟩
  refine hK _ ?_
  clear hK K
  refine AWp.cond rfl (fun h5 => ?_) (fun h5 => ?_)
  · try simp at h5
    -- region 2
    refine AWp.rseq E_ok [0, 2, 5] fun K hK => ?_
    simp [h5]
    repeat refine ⟨by first | omega | assumption | (simp only [maxLen]; omega) | (intros; omega) | decide, ?_⟩
    refine hK _ ?_
    clear hK K
    refine AWp.ret ?_
    repeat first | refine thenN ?_ | refine thenX ?_ | refine thenR ?_ | refine blockN ?_ | refine blockR ?_ | refine blockX ?_ | refine blockM rfl ?_
    first | (simp [RetOk, RV, RVs, yearD, hl.1 h5]; done) | (simp [RetOk, RV, RVs, yearD, mt hl.2 h5])
  · try simp at h5
    refine AWp.skip ?_
    repeat first | refine thenN ?_ | refine thenX ?_ | refine thenR ?_ | refine blockN ?_ | refine blockR ?_ | refine blockX ?_ | refine blockM rfl ?_
    -- region 3
    refine AWp.rseq E_ok [0, 2, 5] fun K hK => ?_
    simp [h5]
    repeat refine ⟨by first | omega | assumption | (simp only [maxLen]; omega) | (intros; omega) | decide, ?_⟩
    refine hK _ ?_
    clear hK K
    refine AWp.ret ?_
    repeat first | refine thenN ?_ | refine thenX ?_ | refine thenR ?_ | refine blockN ?_ | refine blockR ?_ | refine blockX ?_ | refine blockM rfl ?_
    first | (simp [RetOk, RV, RVs, yearD, hl.1 h5]; done) | (simp [RetOk, RV, RVs, yearD, mt hl.2 h5])
end Go.Proofs.YtjpjndfdncalfaaDoor

set_option maxRecDepth 100000
set_option linter.unusedSimpArgs false
set_option linter.unusedVariables false
namespace Go.Proofs.YtjpjndfdncalfaaDoor
open Go Ab Pl
theorem ref03_Parts (day : Int) : ACalls E.P 45 [.int .i64 day] (.tup [.int .i64 (partsR day).1, .int .i64 (partsR day).2.1, .int .i64 (partsR day).2.2.1, .int .i64 (partsR day).2.2.2]) := by
  refine ACalls.intro E_ok Tryd.func45 rfl rfl Tryd.ntmps45 Tryd.results45 (Nat.le_of_ble_eq_true rfl) fun hok base S0 w0 => ?_
  -- region 0
  refine AWp.rseq E_ok [0, 2, 3, 4, 5, 6, 7, 10, 14, 25] fun K hK => ?_
  simp [isDay, ny_first, bef_first]
  try simp (disch := omega) only [wrap_i64]
  repeat refine ⟨by first | omega | assumption | (simp only [maxLen]; omega) | (intros; omega) | decide, ?_⟩
  refine hK _ ?_
  clear hK K
  refine AWp.seq ?_
  -- region 1
  refine AWp.rseq E_ok [0, 2, 3, 4, 5, 6, 7, 10, 14, 25] fun K hK => ?_
  simp [isDay, ny_first, bef_first]
  try simp (disch := omega) only [wrap_i64]
  repeat refine ⟨by first | omega | assumption | (simp only [maxLen]; omega) | (intros; omega) | decide, ?_⟩
  refine meet.of (ref03_Is day) ?_
  simp [isDay, ny_first, bef_first]
  try simp (disch := omega) only [wrap_i64]
  repeat refine ⟨by first | omega | assumption | (simp only [maxLen]; omega) | (intros; omega) | decide, ?_⟩
  refine hK _ ?_
  clear hK K
  refine AWp.cond rfl (fun h10 => ?_) (fun h10 => ?_)
  · try simp at h10
    -- region 2
    refine AWp.rseq E_ok [0, 2, 3, 4, 5, 6, 7, 10, 14, 25] fun K hK => ?_
    simp [isDay, ny_first, bef_first]
    try simp (disch := omega) only [wrap_i64]
    repeat refine ⟨by first | omega | assumption | (simp only [maxLen]; omega) | (intros; omega) | decide, ?_⟩
    refine hK _ ?_
    clear hK K
    refine AWp.ret ?_
    repeat first | refine thenN ?_ | refine thenX ?_ | refine thenR ?_ | refine blockN ?_ | refine blockR ?_ | refine blockX ?_ | refine blockM rfl ?_
    first | (rw [partsR_bad (by omega)]; simp [RetOk, RV, RVs]; done) | (rw [partsR_ok (by omega)]; simp [RetOk, RV, RVs, hp])
  · try simp at h10
    refine AWp.skip ?_
    repeat first | refine thenN ?_ | refine thenX ?_ | refine thenR ?_ | refine blockN ?_ | refine blockR ?_ | refine blockX ?_ | refine blockM rfl ?_
    -- region 3
    refine AWp.rseq E_ok [0, 2, 3, 4, 5, 6, 7, 10, 14, 25] fun K hK => ?_
    simp [isDay, ny_first, bef_first]
    try simp (disch := omega) only [wrap_i64]
    repeat refine ⟨by first | omega | assumption | (simp only [maxLen]; omega) | (intros; omega) | decide, ?_⟩
    refine hK _ ?_
    clear hK K
    refine AWp.seq ?_
    refine AWp.block ?_
    refine AWp.loop (ι := { y : Int // 1900 ≤ y ∧ y ≤ 2199 ∧ nyD y ≤ day }) (fun x => match x with | ⟨y, hy⟩ => [(0, T.val (.int .i64 (day - nyD y))), (6, T.val (.int .i64 y)), (7, T.val (D.int IntKind.i64 1))]) (fun x => match x with | ⟨y, hy⟩ => (2200 - y).toNat) ⟨1900, by omega, by omega, by rw [ny_first]; omega⟩ ?_ ?_
    · simp [Weak, TW, isDay, ny_first, bef_first]
    rintro ⟨y, hy⟩
    simp only
    try simp only at hy
    refine AWp.seq ?_
    -- region 4
    have yp := year_pos y
    have nr := ny_rng hy.1 (by omega)
    have st := ny_step hy.1 hy.2.1
    refine AWp.rseq E_ok [0, 2, 3, 4, 5, 6, 7, 10, 14, 25] fun K hK => ?_
    simp [isDay, ny_first, bef_first]
    try simp (disch := omega) only [wrap_i64]
    repeat refine ⟨by first | omega | assumption | (simp only [maxLen]; omega) | (intros; omega) | decide, ?_⟩
    refine meet.of (ref03_Year y (by omega)) ?_
    simp [isDay, ny_first, bef_first]
    try simp (disch := omega) only [wrap_i64]
    repeat refine ⟨by first | omega | assumption | (simp only [maxLen]; omega) | (intros; omega) | decide, ?_⟩
    refine hK _ ?_
    clear hK K
    refine AWp.cond rfl (fun h14 => ?_) (fun h14 => ?_)
    · try simp at h14
      refine AWp.skip ?_
      repeat first | refine thenN ?_ | refine thenX ?_ | refine thenR ?_ | refine blockN ?_ | refine blockR ?_ | refine blockX ?_ | refine blockM rfl ?_
      refine AWp.block ?_
      -- region 5
      refine AWp.rseq E_ok [0, 2, 3, 4, 5, 6, 7, 10, 14, 25] fun K hK => ?_
      simp [isDay, ny_first, bef_first]
      try simp (disch := omega) only [wrap_i64]
      repeat refine ⟨by first | omega | assumption | (simp only [maxLen]; omega) | (intros; omega) | decide, ?_⟩
      refine meet.of (ref03_Year y (by omega)) ?_
      simp [isDay, ny_first, bef_first]
      try simp (disch := omega) only [wrap_i64]
      repeat refine ⟨by first | omega | assumption | (simp only [maxLen]; omega) | (intros; omega) | decide, ?_⟩
      refine hK _ ?_
      clear hK K
      -- region 6
      refine AWp.rend E_ok [0, 2, 3, 4, 5, 6, 7, 10, 14, 25] fun K hK => ?_
      simp [isDay, ny_first, bef_first]
      try simp (disch := omega) only [wrap_i64]
      repeat refine ⟨by first | omega | assumption | (simp only [maxLen]; omega) | (intros; omega) | decide, ?_⟩
      refine hK _ ?_
      clear hK K
      repeat first | refine thenN ?_ | refine thenX ?_ | refine thenR ?_ | refine blockN ?_ | refine blockR ?_ | refine blockX ?_ | refine blockM rfl ?_
      have hy2 : y ≤ 2198 := by rcases (show y ≤ 2198 ∨ y = 2199 by omega) with hh | hh <;> first | exact hh | (exfalso; subst hh; rw [show (2199 : Int) + 1 = 2200 from rfl, ny_end] at st; omega)
      refine ⟨⟨y + 1, by omega, by omega, by omega⟩, ?_, by simp only; omega⟩
      try simp (disch := omega) only [wrap_i64]
      simp [Weak, TW, st]
      omega
    · try simp at h14
      have be := bef_end hy.1 hy.2.1
      refine AWp.exit ?_
      repeat first | refine thenN ?_ | refine thenX ?_ | refine thenR ?_ | refine blockN ?_ | refine blockR ?_ | refine blockX ?_ | refine blockM rfl ?_
      refine AWp.seq ?_
      refine AWp.block ?_
      refine AWp.loop (ι := { m : Int // 1 ≤ m ∧ m ≤ 12 ∧ befD y m ≤ day - nyD y }) (fun x => match x with | ⟨m, hm⟩ => [(0, T.val (.int .i64 (day - nyD y - befD y m))), (6, T.val (D.int IntKind.i64 y)), (7, T.val (.int .i64 m))]) (fun x => match x with | ⟨m, hm⟩ => (13 - m).toNat) ⟨1, by omega, by omega, by rw [bef_first]; omega⟩ ?_ ?_
      · simp [Weak, TW, isDay, ny_first, bef_first]
      rintro ⟨m, hm⟩
      simp only
      try simp only at hm
      refine AWp.seq ?_
      -- region 7
      have bm1 := bef_mono (y := y) (m := 1) (n := m) (by omega) (by omega) hm.1
      rw [bef_first] at bm1
      have ml := mlen_rng hy.1 hy.2.1 hm.1 hm.2.1
      refine AWp.rseq E_ok [0, 2, 3, 4, 5, 6, 7, 10, 14, 25] fun K hK => ?_
      simp [isDay, ny_first, bef_first]
      try simp (disch := omega) only [wrap_i64]
      repeat refine ⟨by first | omega | assumption | (simp only [maxLen]; omega) | (intros; omega) | decide, ?_⟩
      refine meet.of (ref03_Length y m) ?_
      simp [isDay, ny_first, bef_first]
      try simp (disch := omega) only [wrap_i64]
      repeat refine ⟨by first | omega | assumption | (simp only [maxLen]; omega) | (intros; omega) | decide, ?_⟩
      refine hK _ ?_
      clear hK K
      refine AWp.cond rfl (fun h25 => ?_) (fun h25 => ?_)
      · try simp at h25
        refine AWp.skip ?_
        repeat first | refine thenN ?_ | refine thenX ?_ | refine thenR ?_ | refine blockN ?_ | refine blockR ?_ | refine blockX ?_ | refine blockM rfl ?_
        refine AWp.block ?_
        -- region 8
        refine AWp.rseq E_ok [0, 2, 3, 4, 5, 6, 7, 10, 14, 25] fun K hK => ?_
        simp [isDay, ny_first, bef_first]
        try simp (disch := omega) only [wrap_i64]
        repeat refine ⟨by first | omega | assumption | (simp only [maxLen]; omega) | (intros; omega) | decide, ?_⟩
        refine meet.of (ref03_Length y m) ?_
        simp [isDay, ny_first, bef_first]
        try simp (disch := omega) only [wrap_i64]
        repeat refine ⟨by first | omega | assumption | (simp only [maxLen]; omega) | (intros; omega) | decide, ?_⟩
        refine hK _ ?_
        clear hK K
        -- region 9
        refine AWp.rend E_ok [0, 2, 3, 4, 5, 6, 7, 10, 14, 25] fun K hK => ?_
        simp [isDay, ny_first, bef_first]
        try simp (disch := omega) only [wrap_i64]
        repeat refine ⟨by first | omega | assumption | (simp only [maxLen]; omega) | (intros; omega) | decide, ?_⟩
        refine hK _ ?_
        clear hK K
        repeat first | refine thenN ?_ | refine thenX ?_ | refine thenR ?_ | refine blockN ?_ | refine blockR ?_ | refine blockX ?_ | refine blockM rfl ?_
        have sb := bef_step hy.1 hy.2.1 hm.1 hm.2.1
        have hm2 : m ≤ 11 := by rcases (show m ≤ 11 ∨ m = 12 by omega) with hh | hh <;> first | exact hh | (exfalso; subst hh; rw [show (12 : Int) + 1 = 13 from rfl, be] at sb; omega)
        refine ⟨⟨m + 1, by omega, by omega, by omega⟩, ?_, by simp only; omega⟩
        try simp (disch := omega) only [wrap_i64]
        simp [Weak, TW, sb]
        omega
      · try simp at h25
        have hp := parts_eq (parts_mk hy.1 hy.2.1 hm.1 hm.2.1 (day := day) (by omega) (by have := bef_step hy.1 hy.2.1 hm.1 hm.2.1; omega))
        refine AWp.exit ?_
        repeat first | refine thenN ?_ | refine thenX ?_ | refine thenR ?_ | refine blockN ?_ | refine blockR ?_ | refine blockX ?_ | refine blockM rfl ?_
        -- region 10
        refine AWp.rseq E_ok [0, 2, 3, 4, 5, 6, 7, 10, 14, 25] fun K hK => ?_
        simp [isDay, ny_first, bef_first]
        try simp (disch := omega) only [wrap_i64]
        repeat refine ⟨by first | omega | assumption | (simp only [maxLen]; omega) | (intros; omega) | decide, ?_⟩
        refine hK _ ?_
        clear hK K
        refine AWp.ret ?_
        repeat first | refine thenN ?_ | refine thenX ?_ | refine thenR ?_ | refine blockN ?_ | refine blockR ?_ | refine blockX ?_ | refine blockM rfl ?_
        first | (rw [partsR_bad (by omega)]; simp [RetOk, RV, RVs]; done) | (rw [partsR_ok (by omega)]; simp [RetOk, RV, RVs, hp])
end Go.Proofs.YtjpjndfdncalfaaDoor

set_option maxRecDepth 100000
set_option linter.unusedSimpArgs false
set_option linter.unusedVariables false
namespace Go.Proofs.YtjpjndfdncalfaaDoor
open Go Ab Pl
theorem ref03_Digits (n : Int) (w : Nat) (h0 : 0 ≤ n) (hw : w ≤ 10) : ACalls E.P 46 [.int .i64 n, .int .i64 (w : Int)] (.d (.str (digD n w))) := by
  refine ACalls.intro E_ok Tryd.func46 rfl rfl Tryd.ntmps46 Tryd.results46 (Nat.le_of_ble_eq_true rfl) fun hok base S0 w0 => ?_
  have hm := Ok_i64 (hok (.int .i64 n) (by simp))
  -- region 0
  refine AWp.rseq E_ok [0, 1, 4, 5, 6, 10] fun K hK => ?_
  simp
  try simp (disch := omega) only [wrap_i64]
  repeat refine ⟨by first | omega | assumption | (simp only [maxLen]; omega) | (intros; omega) | decide, ?_⟩
  refine hK _ ?_
  clear hK K
  -- region 1
  refine AWp.rseq E_ok [0, 1, 4, 5, 6, 10] fun K hK => ?_
  simp
  try simp (disch := omega) only [wrap_i64]
  repeat refine ⟨by first | omega | assumption | (simp only [maxLen]; omega) | (intros; omega) | decide, ?_⟩
  refine hK _ ?_
  clear hK K
  refine AWp.seq ?_
  -- region 2
  refine AWp.rseq E_ok [0, 1, 4, 5, 6, 10] fun K hK => ?_
  simp
  try simp (disch := omega) only [wrap_i64]
  repeat refine ⟨by first | omega | assumption | (simp only [maxLen]; omega) | (intros; omega) | decide, ?_⟩
  refine hK _ ?_
  clear hK K
  refine AWp.block ?_
  refine AWp.loop (ι := { x : Int × Nat × List UInt8 // (0 ≤ x.1 ∧ x.1 ≤ n) ∧ x.2.1 ≤ w ∧ x.2.2.length = x.2.1 ∧ digD x.1 (w - x.2.1) ++ x.2.2 = digD n w }) (fun x => match x with | ⟨⟨x, i, b⟩, ⟨hx, hxn⟩, hi, hl, hb⟩ => [(0, T.val (.int .i64 x)), (1, T.val (D.int IntKind.i64 ↑w)), (5, T.own true (.int .u8 0) (b.map fun c => .int .u8 (c.toNat : Int))), (6, T.val (.int .i64 i))]) (fun x => match x with | ⟨⟨x, i, b⟩, ⟨hx, hxn⟩, hi, hl, hb⟩ => w - i) ⟨(n, 0, []), ⟨h0, Int.le_refl _⟩, Nat.zero_le _, rfl, by simp⟩ ?_ ?_
  · simp [Weak, TW]
  rintro ⟨⟨x, i, b⟩, ⟨hx, hxn⟩, hi, hl, hb⟩
  simp only
  try simp only at hx
  try simp only at hxn
  try simp only at hi
  try simp only at hl
  try simp only at hb
  refine AWp.seq ?_
  -- region 3
  refine AWp.rseq E_ok [0, 1, 4, 5, 6, 10] fun K hK => ?_
  simp
  try simp (disch := omega) only [wrap_i64]
  repeat refine ⟨by first | omega | assumption | (simp only [maxLen]; omega) | (intros; omega) | decide, ?_⟩
  refine hK _ ?_
  clear hK K
  refine AWp.cond rfl (fun h10 => ?_) (fun h10 => ?_)
  · try simp at h10
    refine AWp.skip ?_
    repeat first | refine thenN ?_ | refine thenX ?_ | refine thenR ?_ | refine blockN ?_ | refine blockR ?_ | refine blockX ?_ | refine blockM rfl ?_
    refine AWp.seq ?_
    refine AWp.block ?_
    -- region 5
    refine AWp.rseq E_ok [0, 1, 4, 5, 6, 10] fun K hK => ?_
    simp
    try simp (disch := omega) only [wrap_i64]
    repeat refine ⟨by first | omega | assumption | (simp only [maxLen]; omega) | (intros; omega) | decide, ?_⟩
    refine hK _ ?_
    clear hK K
    -- region 6
    refine AWp.rend E_ok [0, 1, 4, 5, 6, 10] fun K hK => ?_
    simp
    try simp (disch := omega) only [wrap_i64]
    repeat refine ⟨by first | omega | assumption | (simp only [maxLen]; omega) | (intros; omega) | decide, ?_⟩
    refine hK _ ?_
    clear hK K
    repeat first | refine thenN ?_ | refine thenX ?_ | refine thenR ?_ | refine blockN ?_ | refine blockR ?_ | refine blockX ?_ | refine blockM rfl ?_
    -- region 4
    refine AWp.rend E_ok [0, 1, 4, 5, 6, 10] fun K hK => ?_
    simp
    try simp (disch := omega) only [wrap_i64]
    repeat refine ⟨by first | omega | assumption | (simp only [maxLen]; omega) | (intros; omega) | decide, ?_⟩
    refine hK _ ?_
    clear hK K
    repeat first | refine thenN ?_ | refine thenX ?_ | refine thenR ?_ | refine blockN ?_ | refine blockR ?_ | refine blockX ?_ | refine blockM rfl ?_
    have e1 : x.tdiv 10 = x / 10 := Int.tdiv_eq_ediv_of_nonneg hx
    have e2 : IntKind.i64.wrap (x / 10) = x / 10 := by rw [wrap_i64] <;> omega
    have e3 := digC_int hx
    have hb2 : digD (x / 10) (w - (i + 1)) ++ (digC x :: b) = digD n w := by rw [show w - i = (w - (i + 1)) + 1 by omega, digD] at hb; simpa using hb
    refine ⟨⟨(x / 10, i + 1, digC x :: b), ⟨by simp only; omega, by simp only; omega⟩, by simp only; omega, by simp [hl], hb2⟩, ?_, by dsimp only; omega⟩
    try dsimp only
    simp [Weak, TW, e1, e2, e3]
  · try simp at h10
    refine AWp.exit ?_
    repeat first | refine thenN ?_ | refine thenX ?_ | refine thenR ?_ | refine blockN ?_ | refine blockR ?_ | refine blockX ?_ | refine blockM rfl ?_
    -- region 7
    refine AWp.rseq E_ok [0, 1, 4, 5, 6, 10] fun K hK => ?_
    simp
    try simp (disch := omega) only [wrap_i64]
    repeat refine ⟨by first | omega | assumption | (simp only [maxLen]; omega) | (intros; omega) | decide, ?_⟩
    refine hK _ ?_
    clear hK K
    refine AWp.ret ?_
    repeat first | refine thenN ?_ | refine thenX ?_ | refine thenR ?_ | refine blockN ?_ | refine blockR ?_ | refine blockX ?_ | refine blockM rfl ?_
    obtain rfl : i = w := (by omega); simp [digD] at hb; simp [RetOk, RV, RVs, Function.comp_def, hb, map_byte]
end Go.Proofs.YtjpjndfdncalfaaDoor

set_option maxRecDepth 100000
set_option linter.unusedSimpArgs false
set_option linter.unusedVariables false
namespace Go.Proofs.YtjpjndfdncalfaaDoor
open Go Ab Pl
theorem ref03_Format (day : Int) : ACalls E.P 34 [.int .i64 day] (.d (.str (formatR day))) := by
  refine ACalls.intro E_ok Tryd.func34 rfl rfl Tryd.ntmps34 Tryd.results34 (Nat.le_of_ble_eq_true rfl) fun hok base S0 w0 => ?_
  -- region 0
  refine AWp.rseq E_ok [0, 2, 3, 4, 5, 6, 15] fun K hK => ?_
  simp [digD_len]
  repeat refine ⟨by first | omega | assumption | (simp only [maxLen]; omega) | (intros; omega) | decide, ?_⟩
  refine hK _ ?_
  clear hK K
  -- region 1
  refine AWp.rseq E_ok [0, 2, 3, 4, 5, 6, 15] fun K hK => ?_
  simp [digD_len]
  repeat refine ⟨by first | omega | assumption | (simp only [maxLen]; omega) | (intros; omega) | decide, ?_⟩
  refine meet.of (ref03_Parts day) ?_
  simp [digD_len]
  repeat refine ⟨by first | omega | assumption | (simp only [maxLen]; omega) | (intros; omega) | decide, ?_⟩
  refine hK _ ?_
  clear hK K
  refine AWp.seq ?_
  -- region 2
  refine AWp.rseq E_ok [0, 2, 3, 4, 5, 6, 15] fun K hK => ?_
  simp [digD_len]
  repeat refine ⟨by first | omega | assumption | (simp only [maxLen]; omega) | (intros; omega) | decide, ?_⟩
  refine hK _ ?_
  clear hK K
  refine AWp.cond rfl (fun h15 => ?_) (fun h15 => ?_)
  · try simp at h15
    have hb := format_bad (partsR_unknown h15)
    -- region 3
    refine AWp.rseq E_ok [0, 2, 3, 4, 5, 6, 15] fun K hK => ?_
    simp [digD_len]
    repeat refine ⟨by first | omega | assumption | (simp only [maxLen]; omega) | (intros; omega) | decide, ?_⟩
    refine hK _ ?_
    clear hK K
    refine AWp.ret ?_
    repeat first | refine thenN ?_ | refine thenX ?_ | refine thenR ?_ | refine blockN ?_ | refine blockR ?_ | refine blockX ?_ | refine blockM rfl ?_
    first | (rw [hb]; simp [RetOk, RV, RVs]; done) | (simp [RetOk, RV, RVs, hb])
  · try simp at h15
    have hk := partsR_known h15
    have hpr := partsR_ok hk
    have hi := parts_in (parts_is hk.1 hk.2)
    have hb := format_ok hk
    refine AWp.skip ?_
    repeat first | refine thenN ?_ | refine thenX ?_ | refine thenR ?_ | refine blockN ?_ | refine blockR ?_ | refine blockX ?_ | refine blockM rfl ?_
    -- region 4
    refine AWp.rseq E_ok [0, 2, 3, 4, 5, 6, 15] fun K hK => ?_
    simp [digD_len, hpr]
    repeat refine ⟨by first | omega | assumption | (simp only [maxLen]; omega) | (intros; omega) | decide, ?_⟩
    refine meet.of (ref03_Digits (partsP day).y 4 (by omega) (by omega)) ?_
    simp [digD_len, hpr]
    repeat refine ⟨by first | omega | assumption | (simp only [maxLen]; omega) | (intros; omega) | decide, ?_⟩
    refine meet.of (ref03_Digits (partsP day).m 2 (by omega) (by omega)) ?_
    simp [digD_len, hpr]
    repeat refine ⟨by first | omega | assumption | (simp only [maxLen]; omega) | (intros; omega) | decide, ?_⟩
    refine meet.of (ref03_Digits (partsP day).d 2 (by omega) (by omega)) ?_
    simp [digD_len, hpr]
    repeat refine ⟨by first | omega | assumption | (simp only [maxLen]; omega) | (intros; omega) | decide, ?_⟩
    refine hK _ ?_
    clear hK K
    refine AWp.ret ?_
    repeat first | refine thenN ?_ | refine thenX ?_ | refine thenR ?_ | refine blockN ?_ | refine blockR ?_ | refine blockX ?_ | refine blockM rfl ?_
    first | (rw [hb]; simp [RetOk, RV, RVs]; done) | (simp [RetOk, RV, RVs, hb])
end Go.Proofs.YtjpjndfdncalfaaDoor

set_option maxRecDepth 100000
set_option linter.unusedSimpArgs false
set_option linter.unusedVariables false
namespace Go.Proofs.YtjpjndfdncalfaaDoor
open Go Ab Pl
theorem ref35_Text (c : Circ) (n : Note) (hp : PatrOk c.patrons) : ACalls E.P 16 [encCirc c, encNote n] (.d (.str (textR c.patrons n))) := by
  refine ACalls.intro E_ok Tryd.func16 rfl rfl Tryd.ntmps16 Tryd.results16 (Nat.le_of_ble_eq_true rfl) fun hok base S0 w0 => ?_
  have hm := Ok_i64 (Ok_agg (hok (encNote n) (by simp)) (.int .i64 n.patron) (by simp))
  have hm2 := Ok_i64 (Ok_agg (hok (encNote n) (by simp)) (.int .i64 n.item) (by simp))
  have hil := Go.Lib.itoa_length_le n.item hm2.1 hm2.2
  have hpl := Go.Lib.itoa_length_le n.patron hm.1 hm.2
  have hnl := nameR_len (i := n.patron) hp hm.1 hm.2
  have hfl := formatR_len n.day
  -- region 0
  refine AWp.rseq E_ok [0, 1, 2, 3, 4, 5, 6, 7, 8, 9, 22, 36, 43, 50, 57] fun K hK => ?_
  simp [encCirc_eq, encNote_eq, encPatr_eq, zPatr]
  repeat refine ⟨by first | omega | assumption | (simp only [maxLen]; omega) | (intros; omega) | decide, ?_⟩
  refine hK _ ?_
  clear hK K
  rcases getP_cs c.patrons n.patron with ⟨e1, hf⟩ | ⟨j, x, e1, hx, hf⟩
  · skip
    have hb := nameR_none hf
    -- region 1
    refine AWp.rseq E_ok [0, 1, 2, 3, 4, 5, 6, 7, 8, 9, 22, 36, 43, 50, 57] fun K hK => ?_
    simp [encCirc_eq, encNote_eq, encPatr_eq, zPatr, hf]
    repeat refine ⟨by first | omega | assumption | (simp only [maxLen]; omega) | (intros; omega) | decide, ?_⟩
    refine meet.of (ref35_Number n.patron) ?_
    simp [encCirc_eq, encNote_eq, encPatr_eq, zPatr, hf]
    repeat refine ⟨by first | omega | assumption | (simp only [maxLen]; omega) | (intros; omega) | decide, ?_⟩
    refine hK _ ?_
    clear hK K
    -- region 2
    refine AWp.rseq E_ok [0, 1, 2, 3, 4, 5, 6, 7, 8, 9, 22, 36, 43, 50, 57] fun K hK => ?_
    simp [encCirc_eq, encNote_eq, encPatr_eq, zPatr, hf]
    repeat refine ⟨by first | omega | assumption | (simp only [maxLen]; omega) | (intros; omega) | decide, ?_⟩
    refine meet.of (ref28_Get c.patrons n.patron) ?_
    simp [encCirc_eq, encNote_eq, encPatr_eq, zPatr, hf]
    repeat refine ⟨by first | omega | assumption | (simp only [maxLen]; omega) | (intros; omega) | decide, ?_⟩
    refine hK _ ?_
    clear hK K
    refine AWp.seq ?_
    -- region 3
    refine AWp.rseq E_ok [0, 1, 2, 3, 4, 5, 6, 7, 8, 9, 22, 36, 43, 50, 57] fun K hK => ?_
    simp [encCirc_eq, encNote_eq, encPatr_eq, zPatr, hf]
    repeat refine ⟨by first | omega | assumption | (simp only [maxLen]; omega) | (intros; omega) | decide, ?_⟩
    refine hK _ ?_
    clear hK K
    refine AWp.cond rfl (fun h22 => ?_) (fun h22 => ?_)
    · exact absurd h22 (by simp)
    · try simp at h22
      refine AWp.skip ?_
      repeat first | refine thenN ?_ | refine thenX ?_ | refine thenR ?_ | refine blockN ?_ | refine blockR ?_ | refine blockX ?_ | refine blockM rfl ?_
      -- region 5
      refine AWp.rseq E_ok [0, 1, 2, 3, 4, 5, 6, 7, 8, 9, 22, 36, 43, 50, 57] fun K hK => ?_
      simp [encCirc_eq, encNote_eq, encPatr_eq, zPatr, hf, h22]
      repeat refine ⟨by first | omega | assumption | (simp only [maxLen]; omega) | (intros; omega) | decide, ?_⟩
      refine meet.of (ref35_Number n.item) ?_
      simp [encCirc_eq, encNote_eq, encPatr_eq, zPatr, hf, h22]
      repeat refine ⟨by first | omega | assumption | (simp only [maxLen]; omega) | (intros; omega) | decide, ?_⟩
      refine hK _ ?_
      clear hK K
      -- region 6
      refine AWp.rseq E_ok [0, 1, 2, 3, 4, 5, 6, 7, 8, 9, 22, 36, 43, 50, 57] fun K hK => ?_
      simp [encCirc_eq, encNote_eq, encPatr_eq, zPatr, hf, h22]
      repeat refine ⟨by first | omega | assumption | (simp only [maxLen]; omega) | (intros; omega) | decide, ?_⟩
      refine meet.of (ref03_Format n.day) ?_
      simp [encCirc_eq, encNote_eq, encPatr_eq, zPatr, hf, h22]
      repeat refine ⟨by first | omega | assumption | (simp only [maxLen]; omega) | (intros; omega) | decide, ?_⟩
      refine hK _ ?_
      clear hK K
      refine AWp.seq ?_
      -- region 7
      refine AWp.rseq E_ok [0, 1, 2, 3, 4, 5, 6, 7, 8, 9, 22, 36, 43, 50, 57] fun K hK => ?_
      simp [encCirc_eq, encNote_eq, encPatr_eq, zPatr, hf, h22]
      repeat refine ⟨by first | omega | assumption | (simp only [maxLen]; omega) | (intros; omega) | decide, ?_⟩
      refine hK _ ?_
      clear hK K
      refine AWp.cond rfl (fun h36 => ?_) (fun h36 => ?_)
      · try simp at h36
        have hT : textR c.patrons n = nameR c.patrons n.patron ++ itS ++ Go.Lib.itoa n.item ++ duS ++ formatR n.day := by rw [textR, if_pos (by omega), h36]; rfl
        -- region 8
        refine AWp.rseq E_ok [0, 1, 2, 3, 4, 5, 6, 7, 8, 9, 22, 36, 43, 50, 57] fun K hK => ?_
        simp [encCirc_eq, encNote_eq, encPatr_eq, zPatr, hf, h22]
        repeat refine ⟨by first | omega | assumption | (simp only [maxLen]; omega) | (intros; omega) | decide, ?_⟩
        refine hK _ ?_
        clear hK K
        refine AWp.ret ?_
        repeat first | refine thenN ?_ | refine thenX ?_ | refine thenR ?_ | refine blockN ?_ | refine blockR ?_ | refine blockX ?_ | refine blockM rfl ?_
        simp [RetOk, RV, hT, hb, paS, itS, duS, waS, wtS, rcS]
      · try simp at h36
        refine AWp.skip ?_
        repeat first | refine thenN ?_ | refine thenX ?_ | refine thenR ?_ | refine blockN ?_ | refine blockR ?_ | refine blockX ?_ | refine blockM rfl ?_
        refine AWp.seq ?_
        -- region 9
        refine AWp.rseq E_ok [0, 1, 2, 3, 4, 5, 6, 7, 8, 9, 22, 36, 43, 50, 57] fun K hK => ?_
        simp [encCirc_eq, encNote_eq, encPatr_eq, zPatr, hf, h22]
        repeat refine ⟨by first | omega | assumption | (simp only [maxLen]; omega) | (intros; omega) | decide, ?_⟩
        refine hK _ ?_
        clear hK K
        refine AWp.cond rfl (fun h43 => ?_) (fun h43 => ?_)
        · try simp at h43
          have hT : textR c.patrons n = nameR c.patrons n.patron ++ itS ++ Go.Lib.itoa n.item ++ waS ++ formatR n.day := by rw [textR, if_pos (by omega), h43]; rfl
          -- region 10
          refine AWp.rseq E_ok [0, 1, 2, 3, 4, 5, 6, 7, 8, 9, 22, 36, 43, 50, 57] fun K hK => ?_
          simp [encCirc_eq, encNote_eq, encPatr_eq, zPatr, hf, h22]
          repeat refine ⟨by first | omega | assumption | (simp only [maxLen]; omega) | (intros; omega) | decide, ?_⟩
          refine hK _ ?_
          clear hK K
          refine AWp.ret ?_
          repeat first | refine thenN ?_ | refine thenX ?_ | refine thenR ?_ | refine blockN ?_ | refine blockR ?_ | refine blockX ?_ | refine blockM rfl ?_
          simp [RetOk, RV, hT, hb, paS, itS, duS, waS, wtS, rcS]
        · try simp at h43
          refine AWp.skip ?_
          repeat first | refine thenN ?_ | refine thenX ?_ | refine thenR ?_ | refine blockN ?_ | refine blockR ?_ | refine blockX ?_ | refine blockM rfl ?_
          refine AWp.seq ?_
          -- region 11
          refine AWp.rseq E_ok [0, 1, 2, 3, 4, 5, 6, 7, 8, 9, 22, 36, 43, 50, 57] fun K hK => ?_
          simp [encCirc_eq, encNote_eq, encPatr_eq, zPatr, hf, h22]
          repeat refine ⟨by first | omega | assumption | (simp only [maxLen]; omega) | (intros; omega) | decide, ?_⟩
          refine hK _ ?_
          clear hK K
          refine AWp.cond rfl (fun h50 => ?_) (fun h50 => ?_)
          · try simp at h50
            have hT : textR c.patrons n = nameR c.patrons n.patron ++ itS ++ Go.Lib.itoa n.item ++ wtS ++ formatR n.day := by rw [textR, if_pos (by omega), h50]; rfl
            -- region 12
            refine AWp.rseq E_ok [0, 1, 2, 3, 4, 5, 6, 7, 8, 9, 22, 36, 43, 50, 57] fun K hK => ?_
            simp [encCirc_eq, encNote_eq, encPatr_eq, zPatr, hf, h22]
            repeat refine ⟨by first | omega | assumption | (simp only [maxLen]; omega) | (intros; omega) | decide, ?_⟩
            refine hK _ ?_
            clear hK K
            refine AWp.ret ?_
            repeat first | refine thenN ?_ | refine thenX ?_ | refine thenR ?_ | refine blockN ?_ | refine blockR ?_ | refine blockX ?_ | refine blockM rfl ?_
            simp [RetOk, RV, hT, hb, paS, itS, duS, waS, wtS, rcS]
          · try simp at h50
            refine AWp.skip ?_
            repeat first | refine thenN ?_ | refine thenX ?_ | refine thenR ?_ | refine blockN ?_ | refine blockR ?_ | refine blockX ?_ | refine blockM rfl ?_
            refine AWp.seq ?_
            -- region 13
            refine AWp.rseq E_ok [0, 1, 2, 3, 4, 5, 6, 7, 8, 9, 22, 36, 43, 50, 57] fun K hK => ?_
            simp [encCirc_eq, encNote_eq, encPatr_eq, zPatr, hf, h22]
            repeat refine ⟨by first | omega | assumption | (simp only [maxLen]; omega) | (intros; omega) | decide, ?_⟩
            refine hK _ ?_
            clear hK K
            refine AWp.cond rfl (fun h57 => ?_) (fun h57 => ?_)
            · try simp at h57
              have hT : textR c.patrons n = nameR c.patrons n.patron ++ itS ++ Go.Lib.itoa n.item ++ rcS ++ formatR n.day := by rw [textR, if_pos (by omega), h57]; rfl
              -- region 14
              refine AWp.rseq E_ok [0, 1, 2, 3, 4, 5, 6, 7, 8, 9, 22, 36, 43, 50, 57] fun K hK => ?_
              simp [encCirc_eq, encNote_eq, encPatr_eq, zPatr, hf, h22]
              repeat refine ⟨by first | omega | assumption | (simp only [maxLen]; omega) | (intros; omega) | decide, ?_⟩
              refine hK _ ?_
              clear hK K
              refine AWp.ret ?_
              repeat first | refine thenN ?_ | refine thenX ?_ | refine thenR ?_ | refine blockN ?_ | refine blockR ?_ | refine blockX ?_ | refine blockM rfl ?_
              simp [RetOk, RV, hT, hb, paS, itS, duS, waS, wtS, rcS]
            · try simp at h57
              have hT : textR c.patrons n = [] := if_neg (by omega)
              refine AWp.skip ?_
              repeat first | refine thenN ?_ | refine thenX ?_ | refine thenR ?_ | refine blockN ?_ | refine blockR ?_ | refine blockX ?_ | refine blockM rfl ?_
              -- region 15
              refine AWp.rseq E_ok [0, 1, 2, 3, 4, 5, 6, 7, 8, 9, 22, 36, 43, 50, 57] fun K hK => ?_
              simp [encCirc_eq, encNote_eq, encPatr_eq, zPatr, hf, h22]
              repeat refine ⟨by first | omega | assumption | (simp only [maxLen]; omega) | (intros; omega) | decide, ?_⟩
              refine hK _ ?_
              clear hK K
              refine AWp.ret ?_
              repeat first | refine thenN ?_ | refine thenX ?_ | refine thenR ?_ | refine blockN ?_ | refine blockR ?_ | refine blockX ?_ | refine blockM rfl ?_
              simp [RetOk, RV, hT, hb, paS, itS, duS, waS, wtS, rcS]
  · skip
    have hb := nameR_some hf
    have hnl2 : x.name.length ≤ 1000 := by rw [← hb]; exact hnl
    -- region 1
    refine AWp.rseq E_ok [0, 1, 2, 3, 4, 5, 6, 7, 8, 9, 22, 36, 43, 50, 57] fun K hK => ?_
    simp [encCirc_eq, encNote_eq, encPatr_eq, zPatr, hf]
    repeat refine ⟨by first | omega | assumption | (simp only [maxLen]; omega) | (intros; omega) | decide, ?_⟩
    refine meet.of (ref35_Number n.patron) ?_
    simp [encCirc_eq, encNote_eq, encPatr_eq, zPatr, hf]
    repeat refine ⟨by first | omega | assumption | (simp only [maxLen]; omega) | (intros; omega) | decide, ?_⟩
    refine hK _ ?_
    clear hK K
    -- region 2
    refine AWp.rseq E_ok [0, 1, 2, 3, 4, 5, 6, 7, 8, 9, 22, 36, 43, 50, 57] fun K hK => ?_
    simp [encCirc_eq, encNote_eq, encPatr_eq, zPatr, hf]
    repeat refine ⟨by first | omega | assumption | (simp only [maxLen]; omega) | (intros; omega) | decide, ?_⟩
    refine meet.of (ref28_Get c.patrons n.patron) ?_
    simp [encCirc_eq, encNote_eq, encPatr_eq, zPatr, hf]
    repeat refine ⟨by first | omega | assumption | (simp only [maxLen]; omega) | (intros; omega) | decide, ?_⟩
    refine hK _ ?_
    clear hK K
    refine AWp.seq ?_
    -- region 3
    refine AWp.rseq E_ok [0, 1, 2, 3, 4, 5, 6, 7, 8, 9, 22, 36, 43, 50, 57] fun K hK => ?_
    simp [encCirc_eq, encNote_eq, encPatr_eq, zPatr, hf]
    repeat refine ⟨by first | omega | assumption | (simp only [maxLen]; omega) | (intros; omega) | decide, ?_⟩
    refine hK _ ?_
    clear hK K
    refine AWp.cond rfl (fun h22 => ?_) (fun h22 => ?_)
    · try simp at h22
      -- region 4
      refine AWp.rend E_ok [0, 1, 2, 3, 4, 5, 6, 7, 8, 9, 22, 36, 43, 50, 57] fun K hK => ?_
      simp [encCirc_eq, encNote_eq, encPatr_eq, zPatr, hf, h22]
      repeat refine ⟨by first | omega | assumption | (simp only [maxLen]; omega) | (intros; omega) | decide, ?_⟩
      refine hK _ ?_
      clear hK K
      repeat first | refine thenN ?_ | refine thenX ?_ | refine thenR ?_ | refine blockN ?_ | refine blockR ?_ | refine blockX ?_ | refine blockM rfl ?_
      -- region 5
      refine AWp.rseq E_ok [0, 1, 2, 3, 4, 5, 6, 7, 8, 9, 22, 36, 43, 50, 57] fun K hK => ?_
      simp [encCirc_eq, encNote_eq, encPatr_eq, zPatr, hf, h22]
      repeat refine ⟨by first | omega | assumption | (simp only [maxLen]; omega) | (intros; omega) | decide, ?_⟩
      refine meet.of (ref35_Number n.item) ?_
      simp [encCirc_eq, encNote_eq, encPatr_eq, zPatr, hf, h22]
      repeat refine ⟨by first | omega | assumption | (simp only [maxLen]; omega) | (intros; omega) | decide, ?_⟩
      refine hK _ ?_
      clear hK K
      -- region 6
      refine AWp.rseq E_ok [0, 1, 2, 3, 4, 5, 6, 7, 8, 9, 22, 36, 43, 50, 57] fun K hK => ?_
      simp [encCirc_eq, encNote_eq, encPatr_eq, zPatr, hf, h22]
      repeat refine ⟨by first | omega | assumption | (simp only [maxLen]; omega) | (intros; omega) | decide, ?_⟩
      refine meet.of (ref03_Format n.day) ?_
      simp [encCirc_eq, encNote_eq, encPatr_eq, zPatr, hf, h22]
      repeat refine ⟨by first | omega | assumption | (simp only [maxLen]; omega) | (intros; omega) | decide, ?_⟩
      refine hK _ ?_
      clear hK K
      refine AWp.seq ?_
      -- region 7
      refine AWp.rseq E_ok [0, 1, 2, 3, 4, 5, 6, 7, 8, 9, 22, 36, 43, 50, 57] fun K hK => ?_
      simp [encCirc_eq, encNote_eq, encPatr_eq, zPatr, hf, h22]
      repeat refine ⟨by first | omega | assumption | (simp only [maxLen]; omega) | (intros; omega) | decide, ?_⟩
      refine hK _ ?_
      clear hK K
      refine AWp.cond rfl (fun h36 => ?_) (fun h36 => ?_)
      · try simp at h36
        have hT : textR c.patrons n = nameR c.patrons n.patron ++ itS ++ Go.Lib.itoa n.item ++ duS ++ formatR n.day := by rw [textR, if_pos (by omega), h36]; rfl
        -- region 8
        refine AWp.rseq E_ok [0, 1, 2, 3, 4, 5, 6, 7, 8, 9, 22, 36, 43, 50, 57] fun K hK => ?_
        simp [encCirc_eq, encNote_eq, encPatr_eq, zPatr, hf, h22]
        repeat refine ⟨by first | omega | assumption | (simp only [maxLen]; omega) | (intros; omega) | decide, ?_⟩
        refine hK _ ?_
        clear hK K
        refine AWp.ret ?_
        repeat first | refine thenN ?_ | refine thenX ?_ | refine thenR ?_ | refine blockN ?_ | refine blockR ?_ | refine blockX ?_ | refine blockM rfl ?_
        simp [RetOk, RV, hT, hb, paS, itS, duS, waS, wtS, rcS]
      · try simp at h36
        refine AWp.skip ?_
        repeat first | refine thenN ?_ | refine thenX ?_ | refine thenR ?_ | refine blockN ?_ | refine blockR ?_ | refine blockX ?_ | refine blockM rfl ?_
        refine AWp.seq ?_
        -- region 9
        refine AWp.rseq E_ok [0, 1, 2, 3, 4, 5, 6, 7, 8, 9, 22, 36, 43, 50, 57] fun K hK => ?_
        simp [encCirc_eq, encNote_eq, encPatr_eq, zPatr, hf, h22]
        repeat refine ⟨by first | omega | assumption | (simp only [maxLen]; omega) | (intros; omega) | decide, ?_⟩
        refine hK _ ?_
        clear hK K
        refine AWp.cond rfl (fun h43 => ?_) (fun h43 => ?_)
        · try simp at h43
          have hT : textR c.patrons n = nameR c.patrons n.patron ++ itS ++ Go.Lib.itoa n.item ++ waS ++ formatR n.day := by rw [textR, if_pos (by omega), h43]; rfl
          -- region 10
          refine AWp.rseq E_ok [0, 1, 2, 3, 4, 5, 6, 7, 8, 9, 22, 36, 43, 50, 57] fun K hK => ?_
          simp [encCirc_eq, encNote_eq, encPatr_eq, zPatr, hf, h22]
          repeat refine ⟨by first | omega | assumption | (simp only [maxLen]; omega) | (intros; omega) | decide, ?_⟩
          refine hK _ ?_
          clear hK K
          refine AWp.ret ?_
          repeat first | refine thenN ?_ | refine thenX ?_ | refine thenR ?_ | refine blockN ?_ | refine blockR ?_ | refine blockX ?_ | refine blockM rfl ?_
          simp [RetOk, RV, hT, hb, paS, itS, duS, waS, wtS, rcS]
        · try simp at h43
          refine AWp.skip ?_
          repeat first | refine thenN ?_ | refine thenX ?_ | refine thenR ?_ | refine blockN ?_ | refine blockR ?_ | refine blockX ?_ | refine blockM rfl ?_
          refine AWp.seq ?_
          -- region 11
          refine AWp.rseq E_ok [0, 1, 2, 3, 4, 5, 6, 7, 8, 9, 22, 36, 43, 50, 57] fun K hK => ?_
          simp [encCirc_eq, encNote_eq, encPatr_eq, zPatr, hf, h22]
          repeat refine ⟨by first | omega | assumption | (simp only [maxLen]; omega) | (intros; omega) | decide, ?_⟩
          refine hK _ ?_
          clear hK K
          refine AWp.cond rfl (fun h50 => ?_) (fun h50 => ?_)
          · try simp at h50
            have hT : textR c.patrons n = nameR c.patrons n.patron ++ itS ++ Go.Lib.itoa n.item ++ wtS ++ formatR n.day := by rw [textR, if_pos (by omega), h50]; rfl
            -- region 12
            refine AWp.rseq E_ok [0, 1, 2, 3, 4, 5, 6, 7, 8, 9, 22, 36, 43, 50, 57] fun K hK => ?_
            simp [encCirc_eq, encNote_eq, encPatr_eq, zPatr, hf, h22]
            repeat refine ⟨by first | omega | assumption | (simp only [maxLen]; omega) | (intros; omega) | decide, ?_⟩
            refine hK _ ?_
            clear hK K
            refine AWp.ret ?_
            repeat first | refine thenN ?_ | refine thenX ?_ | refine thenR ?_ | refine blockN ?_ | refine blockR ?_ | refine blockX ?_ | refine blockM rfl ?_
            simp [RetOk, RV, hT, hb, paS, itS, duS, waS, wtS, rcS]
          · try simp at h50
            refine AWp.skip ?_
            repeat first | refine thenN ?_ | refine thenX ?_ | refine thenR ?_ | refine blockN ?_ | refine blockR ?_ | refine blockX ?_ | refine blockM rfl ?_
            refine AWp.seq ?_
            -- region 13
            refine AWp.rseq E_ok [0, 1, 2, 3, 4, 5, 6, 7, 8, 9, 22, 36, 43, 50, 57] fun K hK => ?_
            simp [encCirc_eq, encNote_eq, encPatr_eq, zPatr, hf, h22]
            repeat refine ⟨by first | omega | assumption | (simp only [maxLen]; omega) | (intros; omega) | decide, ?_⟩
            refine hK _ ?_
            clear hK K
            refine AWp.cond rfl (fun h57 => ?_) (fun h57 => ?_)
            · try simp at h57
              have hT : textR c.patrons n = nameR c.patrons n.patron ++ itS ++ Go.Lib.itoa n.item ++ rcS ++ formatR n.day := by rw [textR, if_pos (by omega), h57]; rfl
              -- region 14
              refine AWp.rseq E_ok [0, 1, 2, 3, 4, 5, 6, 7, 8, 9, 22, 36, 43, 50, 57] fun K hK => ?_
              simp [encCirc_eq, encNote_eq, encPatr_eq, zPatr, hf, h22]
              repeat refine ⟨by first | omega | assumption | (simp only [maxLen]; omega) | (intros; omega) | decide, ?_⟩
              refine hK _ ?_
              clear hK K
              refine AWp.ret ?_
              repeat first | refine thenN ?_ | refine thenX ?_ | refine thenR ?_ | refine blockN ?_ | refine blockR ?_ | refine blockX ?_ | refine blockM rfl ?_
              simp [RetOk, RV, hT, hb, paS, itS, duS, waS, wtS, rcS]
            · try simp at h57
              have hT : textR c.patrons n = [] := if_neg (by omega)
              refine AWp.skip ?_
              repeat first | refine thenN ?_ | refine thenX ?_ | refine thenR ?_ | refine blockN ?_ | refine blockR ?_ | refine blockX ?_ | refine blockM rfl ?_
              -- region 15
              refine AWp.rseq E_ok [0, 1, 2, 3, 4, 5, 6, 7, 8, 9, 22, 36, 43, 50, 57] fun K hK => ?_
              simp [encCirc_eq, encNote_eq, encPatr_eq, zPatr, hf, h22]
              repeat refine ⟨by first | omega | assumption | (simp only [maxLen]; omega) | (intros; omega) | decide, ?_⟩
              refine hK _ ?_
              clear hK K
              refine AWp.ret ?_
              repeat first | refine thenN ?_ | refine thenX ?_ | refine thenR ?_ | refine blockN ?_ | refine blockR ?_ | refine blockX ?_ | refine blockM rfl ?_
              simp [RetOk, RV, hT, hb, paS, itS, duS, waS, wtS, rcS]
    · exact absurd h22 (by simp)
end Go.Proofs.YtjpjndfdncalfaaDoor

set_option maxRecDepth 100000
set_option linter.unusedSimpArgs false
set_option linter.unusedVariables false
namespace Go.Proofs.YtjpjndfdncalfaaDoor
open Go Ab Pl
theorem ref28_Small (l : List Patr) : ACalls E.P 14 [encPatrs l] (.d (.bool (smaP l))) := by
  refine ACalls.intro E_ok Tryd.func14 rfl rfl Tryd.ntmps14 Tryd.results14 (Nat.le_of_ble_eq_true rfl) fun hok base S0 w0 => ?_
  -- region 0
  refine AWp.rseq E_ok [0, 2, 3, 6, 10, 19] fun K hK => ?_
  simp [encPatrs_eq, encPatr_eq]
  repeat refine ⟨by first | omega | assumption | (simp only [maxLen]; omega) | (intros; omega) | decide, ?_⟩
  refine hK _ ?_
  clear hK K
  refine AWp.seq ?_
  -- region 1
  refine AWp.rseq E_ok [0, 2, 3, 6, 10, 19] fun K hK => ?_
  simp [encPatrs_eq, encPatr_eq]
  repeat refine ⟨by first | omega | assumption | (simp only [maxLen]; omega) | (intros; omega) | decide, ?_⟩
  refine hK _ ?_
  clear hK K
  refine AWp.cond rfl (fun h6 => ?_) (fun h6 => ?_)
  · try simp at h6
    have hb : smaP l = false := by unfold smaP; rw [Bool.and_eq_false_iff]; exact .inl (by simp; omega)
    -- region 2
    refine AWp.rseq E_ok [0, 2, 3, 6, 10, 19] fun K hK => ?_
    simp [encPatrs_eq, encPatr_eq]
    repeat refine ⟨by first | omega | assumption | (simp only [maxLen]; omega) | (intros; omega) | decide, ?_⟩
    refine hK _ ?_
    clear hK K
    refine AWp.ret ?_
    repeat first | refine thenN ?_ | refine thenX ?_ | refine thenR ?_ | refine blockN ?_ | refine blockR ?_ | refine blockX ?_ | refine blockM rfl ?_
    first | (simp [RetOk, RV, hb]; done) | simp [RetOk, RV, hb, ← hs]
  · try simp at h6
    have hb : smaP l = smaF () l := by rw [smaF_eq]; unfold smaP; rw [show decide (l.length ≤ 60) = true by simp; omega]; rfl
    refine AWp.skip ?_
    repeat first | refine thenN ?_ | refine thenX ?_ | refine thenR ?_ | refine blockN ?_ | refine blockR ?_ | refine blockX ?_ | refine blockM rfl ?_
    refine AWp.seq ?_
    -- region 3
    refine AWp.rseq E_ok [0, 2, 3, 6, 10, 19] fun K hK => ?_
    simp [encPatrs_eq, encPatr_eq]
    repeat refine ⟨by first | omega | assumption | (simp only [maxLen]; omega) | (intros; omega) | decide, ?_⟩
    refine hK _ ?_
    clear hK K
    refine AWp.block ?_
    refine AWp.range (l := l) (F := smaF) (tot := smaF () l) (fun k y => match y with | () => True) (fun k y => match y with | () => [(0, T.val ((D.agg [D.int IntKind.i64 zPatr.id, D.int IntKind.i64 zPatr.kind, D.int IntKind.i64 zPatr.br, D.int IntKind.i64 zPatr.til, D.bool zPatr.stop, D.str zPatr.name]).slice (List.map encPatr l))), (3, T.val (.int .i64 k))]) () ?_ rfl ?_ ?_
    · simp [Weak, TW, encPatrs_eq, encPatr_eq]
    · first | exact trivial | (simp; omega) | simp
    rintro k ⟨⟩ hk hs hi
    try simp only at hi
    refine AWp.seq ?_
    -- region 4
    refine AWp.rseq E_ok [0, 2, 3, 6, 10, 19] fun K hK => ?_
    simp [encPatrs_eq, encPatr_eq]
    repeat refine ⟨by first | omega | assumption | (simp only [maxLen]; omega) | (intros; omega) | decide, ?_⟩
    refine hK _ ?_
    clear hK K
    refine AWp.cond rfl (fun h10 => ?_) (fun h10 => ?_)
    · try simp at h10
      obtain ⟨x, hx, hxx, hd⟩ := at_indexG (l := l) h10
      rw [hd] at hs
      refine AWp.skip ?_
      repeat first | refine thenN ?_ | refine thenX ?_ | refine thenR ?_ | refine blockN ?_ | refine blockR ?_ | refine blockX ?_ | refine blockM rfl ?_
      refine AWp.seq ?_
      refine AWp.block ?_
      -- region 6
      refine AWp.rseq E_ok [0, 2, 3, 6, 10, 19] fun K hK => ?_
      simp [encPatrs_eq, encPatr_eq, h10, hx, hxx]
      repeat refine ⟨by first | omega | assumption | (simp only [maxLen]; omega) | (intros; omega) | decide, ?_⟩
      refine hK _ ?_
      clear hK K
      refine AWp.cond rfl (fun h19 => ?_) (fun h19 => ?_)
      · try simp at h19
        rw [smaF, if_neg (by omega)] at hs
        -- region 7
        refine AWp.rseq E_ok [0, 2, 3, 6, 10, 19] fun K hK => ?_
        simp [encPatrs_eq, encPatr_eq, h10, hx, hxx]
        repeat refine ⟨by first | omega | assumption | (simp only [maxLen]; omega) | (intros; omega) | decide, ?_⟩
        refine hK _ ?_
        clear hK K
        refine AWp.ret ?_
        repeat first | refine thenN ?_ | refine thenX ?_ | refine thenR ?_ | refine blockN ?_ | refine blockR ?_ | refine blockX ?_ | refine blockM rfl ?_
        first | (simp [RetOk, RV, hb]; done) | simp [RetOk, RV, hb, ← hs]
      · try simp at h19
        rw [smaF, if_pos (by omega)] at hs
        refine AWp.skip ?_
        repeat first | refine thenN ?_ | refine thenX ?_ | refine thenR ?_ | refine blockN ?_ | refine blockR ?_ | refine blockX ?_ | refine blockM rfl ?_
        -- region 5
        refine AWp.rend E_ok [0, 2, 3, 6, 10, 19] fun K hK => ?_
        simp [encPatrs_eq, encPatr_eq, h10, hx, hxx]
        repeat refine ⟨by first | omega | assumption | (simp only [maxLen]; omega) | (intros; omega) | decide, ?_⟩
        refine hK _ ?_
        clear hK K
        repeat first | refine thenN ?_ | refine thenX ?_ | refine thenR ?_ | refine blockN ?_ | refine blockR ?_ | refine blockX ?_ | refine blockM rfl ?_
        have hw : IntKind.i64.wrap ((k : Int) + 1) = (k : Int) + 1 := by rw [wrap_i64] <;> omega
        skip
        refine ⟨_, h10, hs, ?_, ?_⟩
        · first | exact trivial | (simp; omega) | simp
        · simp [Weak, TW, hw, encPatrs_eq, encPatr_eq]
    · try simp at h10
      obtain rfl : k = l.length := by omega
      rw [List.drop_length] at hs
      rw [smaF] at hs
      refine AWp.exit ?_
      repeat first | refine thenN ?_ | refine thenX ?_ | refine thenR ?_ | refine blockN ?_ | refine blockR ?_ | refine blockX ?_ | refine blockM rfl ?_
      -- region 8
      refine AWp.rseq E_ok [0, 2, 3, 6, 10, 19] fun K hK => ?_
      simp [encPatrs_eq, encPatr_eq, h10]
      repeat refine ⟨by first | omega | assumption | (simp only [maxLen]; omega) | (intros; omega) | decide, ?_⟩
      refine hK _ ?_
      clear hK K
      refine AWp.ret ?_
      repeat first | refine thenN ?_ | refine thenX ?_ | refine thenR ?_ | refine blockN ?_ | refine blockR ?_ | refine blockX ?_ | refine blockM rfl ?_
      first | (simp [RetOk, RV, hb]; done) | simp [RetOk, RV, hb, ← hs]
end Go.Proofs.YtjpjndfdncalfaaDoor

set_option maxRecDepth 100000
set_option linter.unusedSimpArgs false
set_option linter.unusedVariables false
namespace Go.Proofs.YtjpjndfdncalfaaDoor
open Go Ab Pl
@[simp] noncomputable def zt4x1 (c : Circ) : D := (D.agg [D.int IntKind.i64 c.today, encItms c.items, encPatrs c.patrons, encLoans c.loans, encHlds c.holds, encCharges c.charges, encRules c.rules, D.int IntKind.i64 c.cals.c0.week, encInts c.cals.c0.closed, D.int IntKind.i64 c.cals.c1.week, encInts c.cals.c1.closed, D.int IntKind.i64 c.cals.c2.week, encInts c.cals.c2.closed, D.int IntKind.i64 c.cals.c3.week, encInts c.cals.c3.closed, encMoves c.moves, D.int IntKind.i64 c.nh, D.int IntKind.i64 c.nc, D.bool c.loc])
@[simp] noncomputable def zt4x2 (c : Circ) : List C := [C.d (D.int IntKind.i64 c.today), C.d (encItms c.items), C.d (encPatrs c.patrons), C.d (encLoans c.loans), C.d (encHlds c.holds), C.d (encCharges c.charges), C.d (encRules c.rules), C.d (D.int IntKind.i64 c.cals.c0.week), C.d (encInts c.cals.c0.closed), C.d (D.int IntKind.i64 c.cals.c1.week), C.d (encInts c.cals.c1.closed), C.d (D.int IntKind.i64 c.cals.c2.week), C.d (encInts c.cals.c2.closed), C.d (D.int IntKind.i64 c.cals.c3.week), C.d (encInts c.cals.c3.closed), C.d (encMoves c.moves), C.d (D.int IntKind.i64 c.nh), C.d (D.int IntKind.i64 c.nc), C.d (D.bool c.loc)]
@[simp] noncomputable def zt4x3 (n : Note) : D := (D.agg [D.int IntKind.i64 n.kind, D.int IntKind.i64 n.patron, D.int IntKind.i64 n.item, D.int IntKind.i64 n.day])
@[simp] noncomputable def zt4x4 (n : Note) : List C := [C.d (D.int IntKind.i64 n.kind), C.d (D.int IntKind.i64 n.patron), C.d (D.int IntKind.i64 n.item), C.d (D.int IntKind.i64 n.day)]
@[simp] noncomputable def zt4x5 (c : Circ) (n : Note) : List (Nat × T) := [(0, T.val (zt4x1 c)), (1, T.val (zt4x3 n)), (2, T.box (zt4x2 c)), (3, T.box (zt4x4 n)), (4, T.val (D.bool true)), (6, T.val (D.bool false))]
set_option maxHeartbeats 4000000 in
theorem law35_NoticeTexts (c : Circ) (n : Note) : ACalls E.P 4 [encCirc c, encNote n] (.d (.bool true)) := by
  refine ACalls.intro E_ok Tryd.func4 rfl rfl Tryd.ntmps4 Tryd.results4 (Nat.le_of_ble_eq_true rfl) fun hok base S0 w0 => ?_
  -- region 0
  refine AWp.rseq E_ok [0, 1, 2, 3, 4, 6] fun K hK => ?_
  simp [encCirc_eq, encNote_eq]
  repeat refine ⟨by first | omega | assumption | (simp only [maxLen]; omega) | (intros; omega) | decide, ?_⟩
  refine hK _ ?_
  clear hK K
  refine AWp.seq ?_
  -- region 1
  refine AWp.rseq E_ok [0, 1, 2, 3, 4, 6] fun K hK => ?_
  simp [encCirc_eq, encNote_eq]
  repeat refine ⟨by first | omega | assumption | (simp only [maxLen]; omega) | (intros; omega) | decide, ?_⟩
  refine meet.of (law35_alive) ?_
  simp [encCirc_eq, encNote_eq]
  repeat refine ⟨by first | omega | assumption | (simp only [maxLen]; omega) | (intros; omega) | decide, ?_⟩
  refine hK _ ?_
  clear hK K
  refine AWp.cond rfl (fun h6 => ?_) (fun h6 => ?_)
  · exact absurd h6 (by simp)
  · try simp at h6
    refine AWp.skip ?_
    repeat first | refine thenN ?_ | refine thenX ?_ | refine thenR ?_ | refine blockN ?_ | refine blockR ?_ | refine blockX ?_ | refine blockM rfl ?_
    rcases Bool.eq_false_or_eq_true (smaP c.patrons) with hR | hR
    · skip
      have hP := smaP_ok hR
      -- region 3, every order
      refine AWp.rseqS E_ok mixed [0, 1, 2, 3, 4, 6] (n := 14) (l := #[false, false, false, false, false, false, false, false, false, false, false, false, false, false]) rfl (by kernel_rfl) fun K hK => ?_
      suffices hnext : K (zt4x5 c n) by
        refine contS.cut 0 #[true, true, true, true, true, true, true, true, true, true, true, true, true, true] (zt4x5 c n) ?_ fun h_1_2_5_6_7_8_9_10_ => ?_
        · skip
          refine coreS.nil (by kernel_rfl) ?_
          simpa [encCirc_eq, encNote_eq] using hnext
        refine contS.cut 4 #[true, true, true, true, true, true, true, true, true, true, false, false, false, false] [(0, T.val (zt4x1 c)), (1, T.val (zt4x3 n)), (2, T.box (zt4x2 c)), (3, T.box (zt4x4 n)), (4, T.val (D.bool false)), (6, T.val (D.bool false)), (11, T.val (D.bool false)), (14, T.opt [true] (T.val (D.str (textR c.patrons n)))), (15, T.opt [true] (T.val (zt4x1 c))), (16, T.opt [true] (T.val (zt4x3 n)))] ?_ fun h_1_2_5_6_7_8_9 => ?_
        · skip
          refine coreS.step E_ok [10] (by kernel_rfl) (by simp) ?_
          refine anyS.cons rfl ?_ ?_
          · skip
            simp [encCirc_eq, encNote_eq, h6, hR]
            repeat refine ⟨by first | omega | assumption | (simp only [maxLen]; omega) | (intros; omega) | decide, ?_⟩
            refine meet.ofG (fun hz => by first | exact ref35_Text c n hP | exact (absurd hz (by simp) : ACalls E.P _ _ (.d (.str [])))) ?_
            simp [encCirc_eq, encNote_eq, h6, hR]
            repeat refine ⟨by first | omega | assumption | (simp only [maxLen]; omega) | (intros; omega) | decide, ?_⟩
            refine contS.now (f' := 3) (l' := #[true, true, true, true, true, true, true, true, true, true, true, false, false, false]) ?_ rfl (by kernel_rfl)
            refine coreS.dry E_ok (by kernel_rfl) 11 rfl rfl (by kernel_rfl) (by kernel_rfl) ?_
            simp [encCirc_eq, encNote_eq, h6, hR]
            repeat refine ⟨by first | omega | assumption | (simp only [maxLen]; omega) | (intros; omega) | decide, ?_⟩
            refine contS.now (f' := 2) (l' := #[true, true, true, true, true, true, true, true, true, true, true, true, false, false]) ?_ rfl (by kernel_rfl)
            refine coreS.dry E_ok (by kernel_rfl) 12 rfl rfl (by kernel_rfl) (by kernel_rfl) ?_
            simp [encCirc_eq, encNote_eq, h6, hR]
            repeat refine ⟨by first | omega | assumption | (simp only [maxLen]; omega) | (intros; omega) | decide, ?_⟩
            refine contS.now (f' := 1) (l' := #[true, true, true, true, true, true, true, true, true, true, true, true, true, false]) ?_ rfl (by kernel_rfl)
            refine coreS.dry E_ok (by kernel_rfl) 13 rfl rfl (by kernel_rfl) (by kernel_rfl) ?_
            simp [encCirc_eq, encNote_eq, h6, hR]
            repeat refine ⟨by first | omega | assumption | (simp only [maxLen]; omega) | (intros; omega) | decide, ?_⟩
            exact contS.mk (by simp [Weak, TW, T.plain, encCirc_eq, encNote_eq]) h_1_2_5_6_7_8_9_10_ (by kernel_rfl)
          exact anyS.nil
        refine contS.cut 5 #[true, true, true, true, true, true, true, true, true, false, false, false, false, false] [(0, T.val (zt4x1 c)), (1, T.val (zt4x3 n)), (2, T.box (zt4x2 c)), (3, T.box (zt4x4 n)), (4, T.val (D.bool false)), (6, T.val (D.bool false)), (11, T.val (D.bool false)), (14, T.opt [true] (T.val (D.str (textR c.patrons n)))), (15, T.opt [true] (T.val (zt4x1 c)))] ?_ fun h_1_2_5_6_7_8 => ?_
        · skip
          refine coreS.step E_ok [9] (by kernel_rfl) (by simp) ?_
          refine anyS.cons rfl ?_ ?_
          · skip
            simp [encCirc_eq, encNote_eq, h6, hR]
            repeat refine ⟨by first | omega | assumption | (simp only [maxLen]; omega) | (intros; omega) | decide, ?_⟩
            exact contS.mk (by simp [Weak, TW, T.plain, encCirc_eq, encNote_eq]) h_1_2_5_6_7_8_9 (by kernel_rfl)
          exact anyS.nil
        refine contS.cut 5 #[true, true, true, true, true, true, true, true, false, true, false, false, false, false] [(0, T.val (zt4x1 c)), (1, T.val (zt4x3 n)), (2, T.box (zt4x2 c)), (3, T.box (zt4x4 n)), (4, T.val (D.bool false)), (6, T.val (D.bool false)), (11, T.val (D.bool false)), (14, T.opt [true] (T.val (D.str (textR c.patrons n)))), (16, T.opt [true] (T.val (zt4x3 n)))] ?_ fun h_1_2_5_6_7_9 => ?_
        · skip
          refine coreS.step E_ok [8] (by kernel_rfl) (by simp) ?_
          refine anyS.cons rfl ?_ ?_
          · skip
            simp [encCirc_eq, encNote_eq, h6, hR]
            repeat refine ⟨by first | omega | assumption | (simp only [maxLen]; omega) | (intros; omega) | decide, ?_⟩
            exact contS.mk (by simp [Weak, TW, T.plain, encCirc_eq, encNote_eq]) h_1_2_5_6_7_8_9 (by kernel_rfl)
          exact anyS.nil
        refine contS.cut 5 #[true, true, true, true, true, true, true, false, true, true, false, false, false, false] [(0, T.val (zt4x1 c)), (1, T.val (zt4x3 n)), (2, T.box (zt4x2 c)), (3, T.box (zt4x4 n)), (4, T.val (D.bool false)), (6, T.val (D.bool false)), (11, T.val (D.bool false)), (12, T.opt [true] (T.val (zt4x1 c))), (13, T.opt [true] (T.val (zt4x3 n))), (15, T.opt [true] (T.val (zt4x1 c))), (16, T.opt [true] (T.val (zt4x3 n)))] ?_ fun h_1_2_5_6_8_9 => ?_
        · skip
          refine coreS.step E_ok [7] (by kernel_rfl) (by simp) ?_
          refine anyS.cons rfl ?_ ?_
          · skip
            simp [encCirc_eq, encNote_eq, h6, hR]
            repeat refine ⟨by first | omega | assumption | (simp only [maxLen]; omega) | (intros; omega) | decide, ?_⟩
            refine meet.ofG (fun hz => by first | exact notice_Text c n hP | exact (absurd hz (by simp) : ACalls E.P _ _ (.d (.str [])))) ?_
            simp [encCirc_eq, encNote_eq, h6, hR]
            repeat refine ⟨by first | omega | assumption | (simp only [maxLen]; omega) | (intros; omega) | decide, ?_⟩
            exact contS.mk (by simp [Weak, TW, T.plain, encCirc_eq, encNote_eq]) h_1_2_5_6_7_8_9 (by kernel_rfl)
          exact anyS.nil
        refine contS.cut 6 #[true, true, true, true, true, true, true, true, false, false, false, false, false, false] [(0, T.val (zt4x1 c)), (1, T.val (zt4x3 n)), (2, T.box (zt4x2 c)), (3, T.box (zt4x4 n)), (4, T.val (D.bool false)), (6, T.val (D.bool false)), (11, T.val (D.bool false)), (14, T.opt [true] (T.val (D.str (textR c.patrons n))))] ?_ fun h_1_2_5_6_7 => ?_
        · skip
          refine coreS.step E_ok [8, 9] (by kernel_rfl) (by simp) ?_
          refine anyS.cons rfl ?_ ?_
          · skip
            simp [encCirc_eq, encNote_eq, h6, hR]
            repeat refine ⟨by first | omega | assumption | (simp only [maxLen]; omega) | (intros; omega) | decide, ?_⟩
            exact contS.mk (by simp [Weak, TW, T.plain, encCirc_eq, encNote_eq]) h_1_2_5_6_7_8 (by kernel_rfl)
          refine anyS.cons rfl ?_ ?_
          · skip
            simp [encCirc_eq, encNote_eq, h6, hR]
            repeat refine ⟨by first | omega | assumption | (simp only [maxLen]; omega) | (intros; omega) | decide, ?_⟩
            exact contS.mk (by simp [Weak, TW, T.plain, encCirc_eq, encNote_eq]) h_1_2_5_6_7_9 (by kernel_rfl)
          exact anyS.nil
        refine contS.cut 6 #[true, true, true, true, true, true, true, false, true, false, false, false, false, false] [(0, T.val (zt4x1 c)), (1, T.val (zt4x3 n)), (2, T.box (zt4x2 c)), (3, T.box (zt4x4 n)), (4, T.val (D.bool false)), (6, T.val (D.bool false)), (11, T.val (D.bool false)), (12, T.opt [true] (T.val (zt4x1 c))), (13, T.opt [true] (T.val (zt4x3 n))), (15, T.opt [true] (T.val (zt4x1 c)))] ?_ fun h_1_2_5_6_8 => ?_
        · skip
          refine coreS.step E_ok [7, 9] (by kernel_rfl) (by simp) ?_
          refine anyS.cons rfl ?_ ?_
          · skip
            simp [encCirc_eq, encNote_eq, h6, hR]
            repeat refine ⟨by first | omega | assumption | (simp only [maxLen]; omega) | (intros; omega) | decide, ?_⟩
            refine meet.ofG (fun hz => by first | exact notice_Text c n hP | exact (absurd hz (by simp) : ACalls E.P _ _ (.d (.str [])))) ?_
            simp [encCirc_eq, encNote_eq, h6, hR]
            repeat refine ⟨by first | omega | assumption | (simp only [maxLen]; omega) | (intros; omega) | decide, ?_⟩
            exact contS.mk (by simp [Weak, TW, T.plain, encCirc_eq, encNote_eq]) h_1_2_5_6_7_8 (by kernel_rfl)
          refine anyS.cons rfl ?_ ?_
          · skip
            simp [encCirc_eq, encNote_eq, h6, hR]
            repeat refine ⟨by first | omega | assumption | (simp only [maxLen]; omega) | (intros; omega) | decide, ?_⟩
            exact contS.mk (by simp [Weak, TW, T.plain, encCirc_eq, encNote_eq]) h_1_2_5_6_8_9 (by kernel_rfl)
          exact anyS.nil
        refine contS.cut 6 #[true, true, true, true, true, true, true, false, false, true, false, false, false, false] [(0, T.val (zt4x1 c)), (1, T.val (zt4x3 n)), (2, T.box (zt4x2 c)), (3, T.box (zt4x4 n)), (4, T.val (D.bool false)), (6, T.val (D.bool false)), (11, T.val (D.bool false)), (12, T.opt [true] (T.val (zt4x1 c))), (13, T.opt [true] (T.val (zt4x3 n))), (16, T.opt [true] (T.val (zt4x3 n)))] ?_ fun h_1_2_5_6_9 => ?_
        · skip
          refine coreS.step E_ok [7, 8] (by kernel_rfl) (by simp) ?_
          refine anyS.cons rfl ?_ ?_
          · skip
            simp [encCirc_eq, encNote_eq, h6, hR]
            repeat refine ⟨by first | omega | assumption | (simp only [maxLen]; omega) | (intros; omega) | decide, ?_⟩
            refine meet.ofG (fun hz => by first | exact notice_Text c n hP | exact (absurd hz (by simp) : ACalls E.P _ _ (.d (.str [])))) ?_
            simp [encCirc_eq, encNote_eq, h6, hR]
            repeat refine ⟨by first | omega | assumption | (simp only [maxLen]; omega) | (intros; omega) | decide, ?_⟩
            exact contS.mk (by simp [Weak, TW, T.plain, encCirc_eq, encNote_eq]) h_1_2_5_6_7_9 (by kernel_rfl)
          refine anyS.cons rfl ?_ ?_
          · skip
            simp [encCirc_eq, encNote_eq, h6, hR]
            repeat refine ⟨by first | omega | assumption | (simp only [maxLen]; omega) | (intros; omega) | decide, ?_⟩
            exact contS.mk (by simp [Weak, TW, T.plain, encCirc_eq, encNote_eq]) h_1_2_5_6_8_9 (by kernel_rfl)
          exact anyS.nil
        refine contS.cut 6 #[true, true, true, true, true, true, false, false, true, true, false, false, false, false] [(0, T.val (zt4x1 c)), (1, T.val (zt4x3 n)), (2, T.box (zt4x2 c)), (3, T.box (zt4x4 n)), (4, T.val (D.bool false)), (6, T.val (D.bool false)), (11, T.val (D.bool false)), (12, T.opt [true] (T.val (zt4x1 c))), (15, T.opt [true] (T.val (zt4x1 c))), (16, T.opt [true] (T.val (zt4x3 n)))] ?_ fun h_1_2_5_8_9 => ?_
        · skip
          refine coreS.step E_ok [6] (by kernel_rfl) (by simp) ?_
          refine anyS.cons rfl ?_ ?_
          · skip
            simp [encCirc_eq, encNote_eq, h6, hR]
            repeat refine ⟨by first | omega | assumption | (simp only [maxLen]; omega) | (intros; omega) | decide, ?_⟩
            exact contS.mk (by simp [Weak, TW, T.plain, encCirc_eq, encNote_eq]) h_1_2_5_6_8_9 (by kernel_rfl)
          exact anyS.nil
        refine contS.cut 6 #[true, true, true, true, true, false, true, false, true, true, false, false, false, false] [(0, T.val (zt4x1 c)), (1, T.val (zt4x3 n)), (2, T.box (zt4x2 c)), (3, T.box (zt4x4 n)), (4, T.val (D.bool false)), (6, T.val (D.bool false)), (11, T.val (D.bool false)), (13, T.opt [true] (T.val (zt4x3 n))), (15, T.opt [true] (T.val (zt4x1 c))), (16, T.opt [true] (T.val (zt4x3 n)))] ?_ fun h_1_2_6_8_9 => ?_
        · skip
          refine coreS.step E_ok [5] (by kernel_rfl) (by simp) ?_
          refine anyS.cons rfl ?_ ?_
          · skip
            simp [encCirc_eq, encNote_eq, h6, hR]
            repeat refine ⟨by first | omega | assumption | (simp only [maxLen]; omega) | (intros; omega) | decide, ?_⟩
            exact contS.mk (by simp [Weak, TW, T.plain, encCirc_eq, encNote_eq]) h_1_2_5_6_8_9 (by kernel_rfl)
          exact anyS.nil
        refine contS.cut 7 #[true, true, true, true, true, true, true, false, false, false, false, false, false, false] [(0, T.val (zt4x1 c)), (1, T.val (zt4x3 n)), (2, T.box (zt4x2 c)), (3, T.box (zt4x4 n)), (4, T.val (D.bool false)), (6, T.val (D.bool false)), (11, T.val (D.bool false)), (12, T.opt [true] (T.val (zt4x1 c))), (13, T.opt [true] (T.val (zt4x3 n)))] ?_ fun h_1_2_5_6 => ?_
        · skip
          refine coreS.step E_ok [7, 8, 9] (by kernel_rfl) (by simp) ?_
          refine anyS.cons rfl ?_ ?_
          · skip
            simp [encCirc_eq, encNote_eq, h6, hR]
            repeat refine ⟨by first | omega | assumption | (simp only [maxLen]; omega) | (intros; omega) | decide, ?_⟩
            refine meet.ofG (fun hz => by first | exact notice_Text c n hP | exact (absurd hz (by simp) : ACalls E.P _ _ (.d (.str [])))) ?_
            simp [encCirc_eq, encNote_eq, h6, hR]
            repeat refine ⟨by first | omega | assumption | (simp only [maxLen]; omega) | (intros; omega) | decide, ?_⟩
            exact contS.mk (by simp [Weak, TW, T.plain, encCirc_eq, encNote_eq]) h_1_2_5_6_7 (by kernel_rfl)
          refine anyS.cons rfl ?_ ?_
          · skip
            simp [encCirc_eq, encNote_eq, h6, hR]
            repeat refine ⟨by first | omega | assumption | (simp only [maxLen]; omega) | (intros; omega) | decide, ?_⟩
            exact contS.mk (by simp [Weak, TW, T.plain, encCirc_eq, encNote_eq]) h_1_2_5_6_8 (by kernel_rfl)
          refine anyS.cons rfl ?_ ?_
          · skip
            simp [encCirc_eq, encNote_eq, h6, hR]
            repeat refine ⟨by first | omega | assumption | (simp only [maxLen]; omega) | (intros; omega) | decide, ?_⟩
            exact contS.mk (by simp [Weak, TW, T.plain, encCirc_eq, encNote_eq]) h_1_2_5_6_9 (by kernel_rfl)
          exact anyS.nil
        refine contS.cut 7 #[true, true, true, true, true, true, false, false, true, false, false, false, false, false] [(0, T.val (zt4x1 c)), (1, T.val (zt4x3 n)), (2, T.box (zt4x2 c)), (3, T.box (zt4x4 n)), (4, T.val (D.bool false)), (6, T.val (D.bool false)), (11, T.val (D.bool false)), (12, T.opt [true] (T.val (zt4x1 c))), (15, T.opt [true] (T.val (zt4x1 c)))] ?_ fun h_1_2_5_8 => ?_
        · skip
          refine coreS.step E_ok [6, 9] (by kernel_rfl) (by simp) ?_
          refine anyS.cons rfl ?_ ?_
          · skip
            simp [encCirc_eq, encNote_eq, h6, hR]
            repeat refine ⟨by first | omega | assumption | (simp only [maxLen]; omega) | (intros; omega) | decide, ?_⟩
            exact contS.mk (by simp [Weak, TW, T.plain, encCirc_eq, encNote_eq]) h_1_2_5_6_8 (by kernel_rfl)
          refine anyS.cons rfl ?_ ?_
          · skip
            simp [encCirc_eq, encNote_eq, h6, hR]
            repeat refine ⟨by first | omega | assumption | (simp only [maxLen]; omega) | (intros; omega) | decide, ?_⟩
            exact contS.mk (by simp [Weak, TW, T.plain, encCirc_eq, encNote_eq]) h_1_2_5_8_9 (by kernel_rfl)
          exact anyS.nil
        refine contS.cut 7 #[true, true, true, true, true, true, false, false, false, true, false, false, false, false] [(0, T.val (zt4x1 c)), (1, T.val (zt4x3 n)), (2, T.box (zt4x2 c)), (3, T.box (zt4x4 n)), (4, T.val (D.bool false)), (6, T.val (D.bool false)), (11, T.val (D.bool false)), (12, T.opt [true] (T.val (zt4x1 c))), (16, T.opt [true] (T.val (zt4x3 n)))] ?_ fun h_1_2_5_9 => ?_
        · skip
          refine coreS.step E_ok [6, 8] (by kernel_rfl) (by simp) ?_
          refine anyS.cons rfl ?_ ?_
          · skip
            simp [encCirc_eq, encNote_eq, h6, hR]
            repeat refine ⟨by first | omega | assumption | (simp only [maxLen]; omega) | (intros; omega) | decide, ?_⟩
            exact contS.mk (by simp [Weak, TW, T.plain, encCirc_eq, encNote_eq]) h_1_2_5_6_9 (by kernel_rfl)
          refine anyS.cons rfl ?_ ?_
          · skip
            simp [encCirc_eq, encNote_eq, h6, hR]
            repeat refine ⟨by first | omega | assumption | (simp only [maxLen]; omega) | (intros; omega) | decide, ?_⟩
            exact contS.mk (by simp [Weak, TW, T.plain, encCirc_eq, encNote_eq]) h_1_2_5_8_9 (by kernel_rfl)
          exact anyS.nil
        refine contS.cut 7 #[true, true, true, true, true, false, true, false, true, false, false, false, false, false] [(0, T.val (zt4x1 c)), (1, T.val (zt4x3 n)), (2, T.box (zt4x2 c)), (3, T.box (zt4x4 n)), (4, T.val (D.bool false)), (6, T.val (D.bool false)), (11, T.val (D.bool false)), (13, T.opt [true] (T.val (zt4x3 n))), (15, T.opt [true] (T.val (zt4x1 c)))] ?_ fun h_1_2_6_8 => ?_
        · skip
          refine coreS.step E_ok [5, 9] (by kernel_rfl) (by simp) ?_
          refine anyS.cons rfl ?_ ?_
          · skip
            simp [encCirc_eq, encNote_eq, h6, hR]
            repeat refine ⟨by first | omega | assumption | (simp only [maxLen]; omega) | (intros; omega) | decide, ?_⟩
            exact contS.mk (by simp [Weak, TW, T.plain, encCirc_eq, encNote_eq]) h_1_2_5_6_8 (by kernel_rfl)
          refine anyS.cons rfl ?_ ?_
          · skip
            simp [encCirc_eq, encNote_eq, h6, hR]
            repeat refine ⟨by first | omega | assumption | (simp only [maxLen]; omega) | (intros; omega) | decide, ?_⟩
            exact contS.mk (by simp [Weak, TW, T.plain, encCirc_eq, encNote_eq]) h_1_2_6_8_9 (by kernel_rfl)
          exact anyS.nil
        refine contS.cut 7 #[true, true, true, true, true, false, true, false, false, true, false, false, false, false] [(0, T.val (zt4x1 c)), (1, T.val (zt4x3 n)), (2, T.box (zt4x2 c)), (3, T.box (zt4x4 n)), (4, T.val (D.bool false)), (6, T.val (D.bool false)), (11, T.val (D.bool false)), (13, T.opt [true] (T.val (zt4x3 n))), (16, T.opt [true] (T.val (zt4x3 n)))] ?_ fun h_1_2_6_9 => ?_
        · skip
          refine coreS.step E_ok [5, 8] (by kernel_rfl) (by simp) ?_
          refine anyS.cons rfl ?_ ?_
          · skip
            simp [encCirc_eq, encNote_eq, h6, hR]
            repeat refine ⟨by first | omega | assumption | (simp only [maxLen]; omega) | (intros; omega) | decide, ?_⟩
            exact contS.mk (by simp [Weak, TW, T.plain, encCirc_eq, encNote_eq]) h_1_2_5_6_9 (by kernel_rfl)
          refine anyS.cons rfl ?_ ?_
          · skip
            simp [encCirc_eq, encNote_eq, h6, hR]
            repeat refine ⟨by first | omega | assumption | (simp only [maxLen]; omega) | (intros; omega) | decide, ?_⟩
            exact contS.mk (by simp [Weak, TW, T.plain, encCirc_eq, encNote_eq]) h_1_2_6_8_9 (by kernel_rfl)
          exact anyS.nil
        refine contS.cut 7 #[true, true, true, true, true, false, false, false, true, true, false, false, false, false] [(0, T.val (zt4x1 c)), (1, T.val (zt4x3 n)), (2, T.box (zt4x2 c)), (3, T.box (zt4x4 n)), (4, T.val (D.bool false)), (6, T.val (D.bool false)), (11, T.val (D.bool false)), (15, T.opt [true] (T.val (zt4x1 c))), (16, T.opt [true] (T.val (zt4x3 n)))] ?_ fun h_1_2_8_9 => ?_
        · skip
          refine coreS.step E_ok [5, 6] (by kernel_rfl) (by simp) ?_
          refine anyS.cons rfl ?_ ?_
          · skip
            simp [encCirc_eq, encNote_eq, h6, hR]
            repeat refine ⟨by first | omega | assumption | (simp only [maxLen]; omega) | (intros; omega) | decide, ?_⟩
            exact contS.mk (by simp [Weak, TW, T.plain, encCirc_eq, encNote_eq]) h_1_2_5_8_9 (by kernel_rfl)
          refine anyS.cons rfl ?_ ?_
          · skip
            simp [encCirc_eq, encNote_eq, h6, hR]
            repeat refine ⟨by first | omega | assumption | (simp only [maxLen]; omega) | (intros; omega) | decide, ?_⟩
            exact contS.mk (by simp [Weak, TW, T.plain, encCirc_eq, encNote_eq]) h_1_2_6_8_9 (by kernel_rfl)
          exact anyS.nil
        refine contS.cut 8 #[true, true, true, true, true, true, false, false, false, false, false, false, false, false] [(0, T.val (zt4x1 c)), (1, T.val (zt4x3 n)), (2, T.box (zt4x2 c)), (3, T.box (zt4x4 n)), (4, T.val (D.bool false)), (6, T.val (D.bool false)), (11, T.val (D.bool false)), (12, T.opt [true] (T.val (zt4x1 c)))] ?_ fun h_1_2_5 => ?_
        · skip
          refine coreS.step E_ok [6, 8, 9] (by kernel_rfl) (by simp) ?_
          refine anyS.cons rfl ?_ ?_
          · skip
            simp [encCirc_eq, encNote_eq, h6, hR]
            repeat refine ⟨by first | omega | assumption | (simp only [maxLen]; omega) | (intros; omega) | decide, ?_⟩
            exact contS.mk (by simp [Weak, TW, T.plain, encCirc_eq, encNote_eq]) h_1_2_5_6 (by kernel_rfl)
          refine anyS.cons rfl ?_ ?_
          · skip
            simp [encCirc_eq, encNote_eq, h6, hR]
            repeat refine ⟨by first | omega | assumption | (simp only [maxLen]; omega) | (intros; omega) | decide, ?_⟩
            exact contS.mk (by simp [Weak, TW, T.plain, encCirc_eq, encNote_eq]) h_1_2_5_8 (by kernel_rfl)
          refine anyS.cons rfl ?_ ?_
          · skip
            simp [encCirc_eq, encNote_eq, h6, hR]
            repeat refine ⟨by first | omega | assumption | (simp only [maxLen]; omega) | (intros; omega) | decide, ?_⟩
            exact contS.mk (by simp [Weak, TW, T.plain, encCirc_eq, encNote_eq]) h_1_2_5_9 (by kernel_rfl)
          exact anyS.nil
        refine contS.cut 8 #[true, true, true, true, true, false, true, false, false, false, false, false, false, false] [(0, T.val (zt4x1 c)), (1, T.val (zt4x3 n)), (2, T.box (zt4x2 c)), (3, T.box (zt4x4 n)), (4, T.val (D.bool false)), (6, T.val (D.bool false)), (11, T.val (D.bool false)), (13, T.opt [true] (T.val (zt4x3 n)))] ?_ fun h_1_2_6 => ?_
        · skip
          refine coreS.step E_ok [5, 8, 9] (by kernel_rfl) (by simp) ?_
          refine anyS.cons rfl ?_ ?_
          · skip
            simp [encCirc_eq, encNote_eq, h6, hR]
            repeat refine ⟨by first | omega | assumption | (simp only [maxLen]; omega) | (intros; omega) | decide, ?_⟩
            exact contS.mk (by simp [Weak, TW, T.plain, encCirc_eq, encNote_eq]) h_1_2_5_6 (by kernel_rfl)
          refine anyS.cons rfl ?_ ?_
          · skip
            simp [encCirc_eq, encNote_eq, h6, hR]
            repeat refine ⟨by first | omega | assumption | (simp only [maxLen]; omega) | (intros; omega) | decide, ?_⟩
            exact contS.mk (by simp [Weak, TW, T.plain, encCirc_eq, encNote_eq]) h_1_2_6_8 (by kernel_rfl)
          refine anyS.cons rfl ?_ ?_
          · skip
            simp [encCirc_eq, encNote_eq, h6, hR]
            repeat refine ⟨by first | omega | assumption | (simp only [maxLen]; omega) | (intros; omega) | decide, ?_⟩
            exact contS.mk (by simp [Weak, TW, T.plain, encCirc_eq, encNote_eq]) h_1_2_6_9 (by kernel_rfl)
          exact anyS.nil
        refine contS.cut 8 #[true, true, true, true, true, false, false, false, true, false, false, false, false, false] [(0, T.val (zt4x1 c)), (1, T.val (zt4x3 n)), (2, T.box (zt4x2 c)), (3, T.box (zt4x4 n)), (4, T.val (D.bool false)), (6, T.val (D.bool false)), (11, T.val (D.bool false)), (15, T.opt [true] (T.val (zt4x1 c)))] ?_ fun h_1_2_8 => ?_
        · skip
          refine coreS.step E_ok [5, 6, 9] (by kernel_rfl) (by simp) ?_
          refine anyS.cons rfl ?_ ?_
          · skip
            simp [encCirc_eq, encNote_eq, h6, hR]
            repeat refine ⟨by first | omega | assumption | (simp only [maxLen]; omega) | (intros; omega) | decide, ?_⟩
            exact contS.mk (by simp [Weak, TW, T.plain, encCirc_eq, encNote_eq]) h_1_2_5_8 (by kernel_rfl)
          refine anyS.cons rfl ?_ ?_
          · skip
            simp [encCirc_eq, encNote_eq, h6, hR]
            repeat refine ⟨by first | omega | assumption | (simp only [maxLen]; omega) | (intros; omega) | decide, ?_⟩
            exact contS.mk (by simp [Weak, TW, T.plain, encCirc_eq, encNote_eq]) h_1_2_6_8 (by kernel_rfl)
          refine anyS.cons rfl ?_ ?_
          · skip
            simp [encCirc_eq, encNote_eq, h6, hR]
            repeat refine ⟨by first | omega | assumption | (simp only [maxLen]; omega) | (intros; omega) | decide, ?_⟩
            exact contS.mk (by simp [Weak, TW, T.plain, encCirc_eq, encNote_eq]) h_1_2_8_9 (by kernel_rfl)
          exact anyS.nil
        refine contS.cut 8 #[true, true, true, true, true, false, false, false, false, true, false, false, false, false] [(0, T.val (zt4x1 c)), (1, T.val (zt4x3 n)), (2, T.box (zt4x2 c)), (3, T.box (zt4x4 n)), (4, T.val (D.bool false)), (6, T.val (D.bool false)), (11, T.val (D.bool false)), (16, T.opt [true] (T.val (zt4x3 n)))] ?_ fun h_1_2_9 => ?_
        · skip
          refine coreS.step E_ok [5, 6, 8] (by kernel_rfl) (by simp) ?_
          refine anyS.cons rfl ?_ ?_
          · skip
            simp [encCirc_eq, encNote_eq, h6, hR]
            repeat refine ⟨by first | omega | assumption | (simp only [maxLen]; omega) | (intros; omega) | decide, ?_⟩
            exact contS.mk (by simp [Weak, TW, T.plain, encCirc_eq, encNote_eq]) h_1_2_5_9 (by kernel_rfl)
          refine anyS.cons rfl ?_ ?_
          · skip
            simp [encCirc_eq, encNote_eq, h6, hR]
            repeat refine ⟨by first | omega | assumption | (simp only [maxLen]; omega) | (intros; omega) | decide, ?_⟩
            exact contS.mk (by simp [Weak, TW, T.plain, encCirc_eq, encNote_eq]) h_1_2_6_9 (by kernel_rfl)
          refine anyS.cons rfl ?_ ?_
          · skip
            simp [encCirc_eq, encNote_eq, h6, hR]
            repeat refine ⟨by first | omega | assumption | (simp only [maxLen]; omega) | (intros; omega) | decide, ?_⟩
            exact contS.mk (by simp [Weak, TW, T.plain, encCirc_eq, encNote_eq]) h_1_2_8_9 (by kernel_rfl)
          exact anyS.nil
        refine contS.cut 9 #[true, true, true, true, true, false, false, false, false, false, false, false, false, false] [(0, T.val (zt4x1 c)), (1, T.val (zt4x3 n)), (2, T.box (zt4x2 c)), (3, T.box (zt4x4 n)), (4, T.val (D.bool false)), (6, T.val (D.bool false)), (11, T.val (D.bool false))] ?_ fun h_1_2 => ?_
        · skip
          refine coreS.step E_ok [5, 6, 8, 9] (by kernel_rfl) (by simp) ?_
          refine anyS.cons rfl ?_ ?_
          · skip
            simp [encCirc_eq, encNote_eq, h6, hR]
            repeat refine ⟨by first | omega | assumption | (simp only [maxLen]; omega) | (intros; omega) | decide, ?_⟩
            exact contS.mk (by simp [Weak, TW, T.plain, encCirc_eq, encNote_eq]) h_1_2_5 (by kernel_rfl)
          refine anyS.cons rfl ?_ ?_
          · skip
            simp [encCirc_eq, encNote_eq, h6, hR]
            repeat refine ⟨by first | omega | assumption | (simp only [maxLen]; omega) | (intros; omega) | decide, ?_⟩
            exact contS.mk (by simp [Weak, TW, T.plain, encCirc_eq, encNote_eq]) h_1_2_6 (by kernel_rfl)
          refine anyS.cons rfl ?_ ?_
          · skip
            simp [encCirc_eq, encNote_eq, h6, hR]
            repeat refine ⟨by first | omega | assumption | (simp only [maxLen]; omega) | (intros; omega) | decide, ?_⟩
            exact contS.mk (by simp [Weak, TW, T.plain, encCirc_eq, encNote_eq]) h_1_2_8 (by kernel_rfl)
          refine anyS.cons rfl ?_ ?_
          · skip
            simp [encCirc_eq, encNote_eq, h6, hR]
            repeat refine ⟨by first | omega | assumption | (simp only [maxLen]; omega) | (intros; omega) | decide, ?_⟩
            exact contS.mk (by simp [Weak, TW, T.plain, encCirc_eq, encNote_eq]) h_1_2_9 (by kernel_rfl)
          exact anyS.nil
        refine contS.cut 12 #[true, true, false, false, false, false, false, false, false, false, false, false, false, false] [(0, T.val (zt4x1 c)), (1, T.val (zt4x3 n)), (2, T.box (zt4x2 c)), (3, T.box (zt4x4 n)), (4, T.val (D.bool false)), (6, T.val (D.bool false)), (8, T.val (encPatrs c.patrons))] ?_ fun h_1 => ?_
        · skip
          refine coreS.step E_ok [2] (by kernel_rfl) (by simp) ?_
          refine anyS.cons rfl ?_ ?_
          · skip
            simp [encCirc_eq, encNote_eq, h6, hR]
            repeat refine ⟨by first | omega | assumption | (simp only [maxLen]; omega) | (intros; omega) | decide, ?_⟩
            refine meet.of (ref28_Small c.patrons) ?_
            simp [encCirc_eq, encNote_eq, h6, hR]
            repeat refine ⟨by first | omega | assumption | (simp only [maxLen]; omega) | (intros; omega) | decide, ?_⟩
            refine contS.now (f' := 11) (l' := #[true, true, true, false, false, false, false, false, false, false, false, false, false, false]) ?_ rfl (by kernel_rfl)
            refine coreS.dry E_ok (by kernel_rfl) 3 rfl rfl (by kernel_rfl) (by kernel_rfl) ?_
            simp [encCirc_eq, encNote_eq, h6, hR]
            repeat refine ⟨by first | omega | assumption | (simp only [maxLen]; omega) | (intros; omega) | decide, ?_⟩
            refine contS.now (f' := 10) (l' := #[true, true, true, true, false, false, false, false, false, false, false, false, false, false]) ?_ rfl (by kernel_rfl)
            refine coreS.dry E_ok (by kernel_rfl) 4 rfl rfl (by kernel_rfl) (by kernel_rfl) ?_
            simp [encCirc_eq, encNote_eq, h6, hR]
            repeat refine ⟨by first | omega | assumption | (simp only [maxLen]; omega) | (intros; omega) | decide, ?_⟩
            exact contS.mk (by simp [Weak, TW, T.plain, encCirc_eq, encNote_eq]) h_1_2 (by kernel_rfl)
          exact anyS.nil
        refine contS.cut 13 #[true, false, false, false, false, false, false, false, false, false, false, false, false, false] [(0, T.val (zt4x1 c)), (1, T.val (zt4x3 n)), (2, T.box (zt4x2 c)), (3, T.box (zt4x4 n)), (4, T.val (D.bool false)), (6, T.val (D.bool false)), (7, T.ptr 2 2)] ?_ fun h_ => ?_
        · skip
          refine coreS.step E_ok [1] (by kernel_rfl) (by simp) ?_
          refine anyS.cons rfl ?_ ?_
          · skip
            simp [encCirc_eq, encNote_eq, h6, hR]
            repeat refine ⟨by first | omega | assumption | (simp only [maxLen]; omega) | (intros; omega) | decide, ?_⟩
            exact contS.mk (by simp [Weak, TW, T.plain, encCirc_eq, encNote_eq]) h_1 (by kernel_rfl)
          exact anyS.nil
        refine contS.now (f' := 14) (l' := #[false, false, false, false, false, false, false, false, false, false, false, false, false, false]) ?_ rfl (by kernel_rfl)
        refine coreS.dry E_ok (by kernel_rfl) 0 rfl rfl (by kernel_rfl) (by kernel_rfl) ?_
        simp [encCirc_eq, encNote_eq, h6, hR]
        repeat refine ⟨by first | omega | assumption | (simp only [maxLen]; omega) | (intros; omega) | decide, ?_⟩
        exact contS.mk (by simp [Weak, TW, T.plain, encCirc_eq, encNote_eq]) h_ (by kernel_rfl)
      refine hK _ ?_
      clear hK K
      refine AWp.ret ?_
      repeat first | refine thenN ?_ | refine thenX ?_ | refine thenR ?_ | refine blockN ?_ | refine blockR ?_ | refine blockX ?_ | refine blockM rfl ?_
      simp [RetOk, RV]
    · skip
      skip
      -- region 3, every order
      refine AWp.rseqS E_ok mixed [0, 1, 2, 3, 4, 6] (n := 14) (l := #[false, false, false, false, false, false, false, false, false, false, false, false, false, false]) rfl (by kernel_rfl) fun K hK => ?_
      suffices hnext : K (zt4x5 c n) by
        refine contS.cut 0 #[true, true, true, true, true, true, true, true, true, true, true, true, true, true] (zt4x5 c n) ?_ fun h_1_2_5_6_7_8_9_10_ => ?_
        · skip
          refine coreS.nil (by kernel_rfl) ?_
          simpa [encCirc_eq, encNote_eq] using hnext
        refine contS.cut 4 #[true, true, true, true, true, true, true, true, true, true, false, false, false, false] [(0, T.val (zt4x1 c)), (1, T.val (zt4x3 n)), (2, T.box (zt4x2 c)), (3, T.box (zt4x4 n)), (4, T.val (D.bool false)), (6, T.val (D.bool false)), (11, T.val (D.bool true)), (14, T.opt [false] (T.val (D.str []))), (15, T.opt [false] (T.val (zt4x1 c))), (16, T.opt [false] (T.val (zt4x3 n)))] ?_ fun h_1_2_5_6_7_8_9 => ?_
        · skip
          refine coreS.step E_ok [10] (by kernel_rfl) (by simp) ?_
          refine anyS.cons rfl ?_ ?_
          · skip
            simp [encCirc_eq, encNote_eq, h6, hR]
            repeat refine ⟨by first | omega | assumption | (simp only [maxLen]; omega) | (intros; omega) | decide, ?_⟩
            refine meet.ofG (fun hz => by first | exact ref35_Text c n hP | exact (absurd hz (by simp) : ACalls E.P _ _ (.d (.str [])))) ?_
            simp [encCirc_eq, encNote_eq, h6, hR]
            repeat refine ⟨by first | omega | assumption | (simp only [maxLen]; omega) | (intros; omega) | decide, ?_⟩
            refine contS.now (f' := 3) (l' := #[true, true, true, true, true, true, true, true, true, true, true, false, false, false]) ?_ rfl (by kernel_rfl)
            refine coreS.dry E_ok (by kernel_rfl) 11 rfl rfl (by kernel_rfl) (by kernel_rfl) ?_
            simp [encCirc_eq, encNote_eq, h6, hR]
            repeat refine ⟨by first | omega | assumption | (simp only [maxLen]; omega) | (intros; omega) | decide, ?_⟩
            refine contS.now (f' := 2) (l' := #[true, true, true, true, true, true, true, true, true, true, true, true, false, false]) ?_ rfl (by kernel_rfl)
            refine coreS.dry E_ok (by kernel_rfl) 12 rfl rfl (by kernel_rfl) (by kernel_rfl) ?_
            simp [encCirc_eq, encNote_eq, h6, hR]
            repeat refine ⟨by first | omega | assumption | (simp only [maxLen]; omega) | (intros; omega) | decide, ?_⟩
            refine contS.now (f' := 1) (l' := #[true, true, true, true, true, true, true, true, true, true, true, true, true, false]) ?_ rfl (by kernel_rfl)
            refine coreS.dry E_ok (by kernel_rfl) 13 rfl rfl (by kernel_rfl) (by kernel_rfl) ?_
            simp [encCirc_eq, encNote_eq, h6, hR]
            repeat refine ⟨by first | omega | assumption | (simp only [maxLen]; omega) | (intros; omega) | decide, ?_⟩
            exact contS.mk (by simp [Weak, TW, T.plain, encCirc_eq, encNote_eq]) h_1_2_5_6_7_8_9_10_ (by kernel_rfl)
          exact anyS.nil
        refine contS.cut 5 #[true, true, true, true, true, true, true, true, true, false, false, false, false, false] [(0, T.val (zt4x1 c)), (1, T.val (zt4x3 n)), (2, T.box (zt4x2 c)), (3, T.box (zt4x4 n)), (4, T.val (D.bool false)), (6, T.val (D.bool false)), (11, T.val (D.bool true)), (14, T.opt [false] (T.val (D.str []))), (15, T.opt [false] (T.val (zt4x1 c)))] ?_ fun h_1_2_5_6_7_8 => ?_
        · skip
          refine coreS.step E_ok [9] (by kernel_rfl) (by simp) ?_
          refine anyS.cons rfl ?_ ?_
          · skip
            simp [encCirc_eq, encNote_eq, h6, hR]
            repeat refine ⟨by first | omega | assumption | (simp only [maxLen]; omega) | (intros; omega) | decide, ?_⟩
            exact contS.mk (by simp [Weak, TW, T.plain, encCirc_eq, encNote_eq]) h_1_2_5_6_7_8_9 (by kernel_rfl)
          exact anyS.nil
        refine contS.cut 5 #[true, true, true, true, true, true, true, true, false, true, false, false, false, false] [(0, T.val (zt4x1 c)), (1, T.val (zt4x3 n)), (2, T.box (zt4x2 c)), (3, T.box (zt4x4 n)), (4, T.val (D.bool false)), (6, T.val (D.bool false)), (11, T.val (D.bool true)), (14, T.opt [false] (T.val (D.str []))), (16, T.opt [false] (T.val (zt4x3 n)))] ?_ fun h_1_2_5_6_7_9 => ?_
        · skip
          refine coreS.step E_ok [8] (by kernel_rfl) (by simp) ?_
          refine anyS.cons rfl ?_ ?_
          · skip
            simp [encCirc_eq, encNote_eq, h6, hR]
            repeat refine ⟨by first | omega | assumption | (simp only [maxLen]; omega) | (intros; omega) | decide, ?_⟩
            exact contS.mk (by simp [Weak, TW, T.plain, encCirc_eq, encNote_eq]) h_1_2_5_6_7_8_9 (by kernel_rfl)
          exact anyS.nil
        refine contS.cut 5 #[true, true, true, true, true, true, true, false, true, true, false, false, false, false] [(0, T.val (zt4x1 c)), (1, T.val (zt4x3 n)), (2, T.box (zt4x2 c)), (3, T.box (zt4x4 n)), (4, T.val (D.bool false)), (6, T.val (D.bool false)), (11, T.val (D.bool true)), (12, T.opt [false] (T.val (zt4x1 c))), (13, T.opt [false] (T.val (zt4x3 n))), (15, T.opt [false] (T.val (zt4x1 c))), (16, T.opt [false] (T.val (zt4x3 n)))] ?_ fun h_1_2_5_6_8_9 => ?_
        · skip
          refine coreS.step E_ok [7] (by kernel_rfl) (by simp) ?_
          refine anyS.cons rfl ?_ ?_
          · skip
            simp [encCirc_eq, encNote_eq, h6, hR]
            repeat refine ⟨by first | omega | assumption | (simp only [maxLen]; omega) | (intros; omega) | decide, ?_⟩
            refine meet.ofG (fun hz => by first | exact notice_Text c n hP | exact (absurd hz (by simp) : ACalls E.P _ _ (.d (.str [])))) ?_
            simp [encCirc_eq, encNote_eq, h6, hR]
            repeat refine ⟨by first | omega | assumption | (simp only [maxLen]; omega) | (intros; omega) | decide, ?_⟩
            exact contS.mk (by simp [Weak, TW, T.plain, encCirc_eq, encNote_eq]) h_1_2_5_6_7_8_9 (by kernel_rfl)
          exact anyS.nil
        refine contS.cut 6 #[true, true, true, true, true, true, true, true, false, false, false, false, false, false] [(0, T.val (zt4x1 c)), (1, T.val (zt4x3 n)), (2, T.box (zt4x2 c)), (3, T.box (zt4x4 n)), (4, T.val (D.bool false)), (6, T.val (D.bool false)), (11, T.val (D.bool true)), (14, T.opt [false] (T.val (D.str [])))] ?_ fun h_1_2_5_6_7 => ?_
        · skip
          refine coreS.step E_ok [8, 9] (by kernel_rfl) (by simp) ?_
          refine anyS.cons rfl ?_ ?_
          · skip
            simp [encCirc_eq, encNote_eq, h6, hR]
            repeat refine ⟨by first | omega | assumption | (simp only [maxLen]; omega) | (intros; omega) | decide, ?_⟩
            exact contS.mk (by simp [Weak, TW, T.plain, encCirc_eq, encNote_eq]) h_1_2_5_6_7_8 (by kernel_rfl)
          refine anyS.cons rfl ?_ ?_
          · skip
            simp [encCirc_eq, encNote_eq, h6, hR]
            repeat refine ⟨by first | omega | assumption | (simp only [maxLen]; omega) | (intros; omega) | decide, ?_⟩
            exact contS.mk (by simp [Weak, TW, T.plain, encCirc_eq, encNote_eq]) h_1_2_5_6_7_9 (by kernel_rfl)
          exact anyS.nil
        refine contS.cut 6 #[true, true, true, true, true, true, true, false, true, false, false, false, false, false] [(0, T.val (zt4x1 c)), (1, T.val (zt4x3 n)), (2, T.box (zt4x2 c)), (3, T.box (zt4x4 n)), (4, T.val (D.bool false)), (6, T.val (D.bool false)), (11, T.val (D.bool true)), (12, T.opt [false] (T.val (zt4x1 c))), (13, T.opt [false] (T.val (zt4x3 n))), (15, T.opt [false] (T.val (zt4x1 c)))] ?_ fun h_1_2_5_6_8 => ?_
        · skip
          refine coreS.step E_ok [7, 9] (by kernel_rfl) (by simp) ?_
          refine anyS.cons rfl ?_ ?_
          · skip
            simp [encCirc_eq, encNote_eq, h6, hR]
            repeat refine ⟨by first | omega | assumption | (simp only [maxLen]; omega) | (intros; omega) | decide, ?_⟩
            refine meet.ofG (fun hz => by first | exact notice_Text c n hP | exact (absurd hz (by simp) : ACalls E.P _ _ (.d (.str [])))) ?_
            simp [encCirc_eq, encNote_eq, h6, hR]
            repeat refine ⟨by first | omega | assumption | (simp only [maxLen]; omega) | (intros; omega) | decide, ?_⟩
            exact contS.mk (by simp [Weak, TW, T.plain, encCirc_eq, encNote_eq]) h_1_2_5_6_7_8 (by kernel_rfl)
          refine anyS.cons rfl ?_ ?_
          · skip
            simp [encCirc_eq, encNote_eq, h6, hR]
            repeat refine ⟨by first | omega | assumption | (simp only [maxLen]; omega) | (intros; omega) | decide, ?_⟩
            exact contS.mk (by simp [Weak, TW, T.plain, encCirc_eq, encNote_eq]) h_1_2_5_6_8_9 (by kernel_rfl)
          exact anyS.nil
        refine contS.cut 6 #[true, true, true, true, true, true, true, false, false, true, false, false, false, false] [(0, T.val (zt4x1 c)), (1, T.val (zt4x3 n)), (2, T.box (zt4x2 c)), (3, T.box (zt4x4 n)), (4, T.val (D.bool false)), (6, T.val (D.bool false)), (11, T.val (D.bool true)), (12, T.opt [false] (T.val (zt4x1 c))), (13, T.opt [false] (T.val (zt4x3 n))), (16, T.opt [false] (T.val (zt4x3 n)))] ?_ fun h_1_2_5_6_9 => ?_
        · skip
          refine coreS.step E_ok [7, 8] (by kernel_rfl) (by simp) ?_
          refine anyS.cons rfl ?_ ?_
          · skip
            simp [encCirc_eq, encNote_eq, h6, hR]
            repeat refine ⟨by first | omega | assumption | (simp only [maxLen]; omega) | (intros; omega) | decide, ?_⟩
            refine meet.ofG (fun hz => by first | exact notice_Text c n hP | exact (absurd hz (by simp) : ACalls E.P _ _ (.d (.str [])))) ?_
            simp [encCirc_eq, encNote_eq, h6, hR]
            repeat refine ⟨by first | omega | assumption | (simp only [maxLen]; omega) | (intros; omega) | decide, ?_⟩
            exact contS.mk (by simp [Weak, TW, T.plain, encCirc_eq, encNote_eq]) h_1_2_5_6_7_9 (by kernel_rfl)
          refine anyS.cons rfl ?_ ?_
          · skip
            simp [encCirc_eq, encNote_eq, h6, hR]
            repeat refine ⟨by first | omega | assumption | (simp only [maxLen]; omega) | (intros; omega) | decide, ?_⟩
            exact contS.mk (by simp [Weak, TW, T.plain, encCirc_eq, encNote_eq]) h_1_2_5_6_8_9 (by kernel_rfl)
          exact anyS.nil
        refine contS.cut 6 #[true, true, true, true, true, true, false, false, true, true, false, false, false, false] [(0, T.val (zt4x1 c)), (1, T.val (zt4x3 n)), (2, T.box (zt4x2 c)), (3, T.box (zt4x4 n)), (4, T.val (D.bool false)), (6, T.val (D.bool false)), (11, T.val (D.bool true)), (12, T.opt [false] (T.val (zt4x1 c))), (15, T.opt [false] (T.val (zt4x1 c))), (16, T.opt [false] (T.val (zt4x3 n)))] ?_ fun h_1_2_5_8_9 => ?_
        · skip
          refine coreS.step E_ok [6] (by kernel_rfl) (by simp) ?_
          refine anyS.cons rfl ?_ ?_
          · skip
            simp [encCirc_eq, encNote_eq, h6, hR]
            repeat refine ⟨by first | omega | assumption | (simp only [maxLen]; omega) | (intros; omega) | decide, ?_⟩
            exact contS.mk (by simp [Weak, TW, T.plain, encCirc_eq, encNote_eq]) h_1_2_5_6_8_9 (by kernel_rfl)
          exact anyS.nil
        refine contS.cut 6 #[true, true, true, true, true, false, true, false, true, true, false, false, false, false] [(0, T.val (zt4x1 c)), (1, T.val (zt4x3 n)), (2, T.box (zt4x2 c)), (3, T.box (zt4x4 n)), (4, T.val (D.bool false)), (6, T.val (D.bool false)), (11, T.val (D.bool true)), (13, T.opt [false] (T.val (zt4x3 n))), (15, T.opt [false] (T.val (zt4x1 c))), (16, T.opt [false] (T.val (zt4x3 n)))] ?_ fun h_1_2_6_8_9 => ?_
        · skip
          refine coreS.step E_ok [5] (by kernel_rfl) (by simp) ?_
          refine anyS.cons rfl ?_ ?_
          · skip
            simp [encCirc_eq, encNote_eq, h6, hR]
            repeat refine ⟨by first | omega | assumption | (simp only [maxLen]; omega) | (intros; omega) | decide, ?_⟩
            exact contS.mk (by simp [Weak, TW, T.plain, encCirc_eq, encNote_eq]) h_1_2_5_6_8_9 (by kernel_rfl)
          exact anyS.nil
        refine contS.cut 7 #[true, true, true, true, true, true, true, false, false, false, false, false, false, false] [(0, T.val (zt4x1 c)), (1, T.val (zt4x3 n)), (2, T.box (zt4x2 c)), (3, T.box (zt4x4 n)), (4, T.val (D.bool false)), (6, T.val (D.bool false)), (11, T.val (D.bool true)), (12, T.opt [false] (T.val (zt4x1 c))), (13, T.opt [false] (T.val (zt4x3 n)))] ?_ fun h_1_2_5_6 => ?_
        · skip
          refine coreS.step E_ok [7, 8, 9] (by kernel_rfl) (by simp) ?_
          refine anyS.cons rfl ?_ ?_
          · skip
            simp [encCirc_eq, encNote_eq, h6, hR]
            repeat refine ⟨by first | omega | assumption | (simp only [maxLen]; omega) | (intros; omega) | decide, ?_⟩
            refine meet.ofG (fun hz => by first | exact notice_Text c n hP | exact (absurd hz (by simp) : ACalls E.P _ _ (.d (.str [])))) ?_
            simp [encCirc_eq, encNote_eq, h6, hR]
            repeat refine ⟨by first | omega | assumption | (simp only [maxLen]; omega) | (intros; omega) | decide, ?_⟩
            exact contS.mk (by simp [Weak, TW, T.plain, encCirc_eq, encNote_eq]) h_1_2_5_6_7 (by kernel_rfl)
          refine anyS.cons rfl ?_ ?_
          · skip
            simp [encCirc_eq, encNote_eq, h6, hR]
            repeat refine ⟨by first | omega | assumption | (simp only [maxLen]; omega) | (intros; omega) | decide, ?_⟩
            exact contS.mk (by simp [Weak, TW, T.plain, encCirc_eq, encNote_eq]) h_1_2_5_6_8 (by kernel_rfl)
          refine anyS.cons rfl ?_ ?_
          · skip
            simp [encCirc_eq, encNote_eq, h6, hR]
            repeat refine ⟨by first | omega | assumption | (simp only [maxLen]; omega) | (intros; omega) | decide, ?_⟩
            exact contS.mk (by simp [Weak, TW, T.plain, encCirc_eq, encNote_eq]) h_1_2_5_6_9 (by kernel_rfl)
          exact anyS.nil
        refine contS.cut 7 #[true, true, true, true, true, true, false, false, true, false, false, false, false, false] [(0, T.val (zt4x1 c)), (1, T.val (zt4x3 n)), (2, T.box (zt4x2 c)), (3, T.box (zt4x4 n)), (4, T.val (D.bool false)), (6, T.val (D.bool false)), (11, T.val (D.bool true)), (12, T.opt [false] (T.val (zt4x1 c))), (15, T.opt [false] (T.val (zt4x1 c)))] ?_ fun h_1_2_5_8 => ?_
        · skip
          refine coreS.step E_ok [6, 9] (by kernel_rfl) (by simp) ?_
          refine anyS.cons rfl ?_ ?_
          · skip
            simp [encCirc_eq, encNote_eq, h6, hR]
            repeat refine ⟨by first | omega | assumption | (simp only [maxLen]; omega) | (intros; omega) | decide, ?_⟩
            exact contS.mk (by simp [Weak, TW, T.plain, encCirc_eq, encNote_eq]) h_1_2_5_6_8 (by kernel_rfl)
          refine anyS.cons rfl ?_ ?_
          · skip
            simp [encCirc_eq, encNote_eq, h6, hR]
            repeat refine ⟨by first | omega | assumption | (simp only [maxLen]; omega) | (intros; omega) | decide, ?_⟩
            exact contS.mk (by simp [Weak, TW, T.plain, encCirc_eq, encNote_eq]) h_1_2_5_8_9 (by kernel_rfl)
          exact anyS.nil
        refine contS.cut 7 #[true, true, true, true, true, true, false, false, false, true, false, false, false, false] [(0, T.val (zt4x1 c)), (1, T.val (zt4x3 n)), (2, T.box (zt4x2 c)), (3, T.box (zt4x4 n)), (4, T.val (D.bool false)), (6, T.val (D.bool false)), (11, T.val (D.bool true)), (12, T.opt [false] (T.val (zt4x1 c))), (16, T.opt [false] (T.val (zt4x3 n)))] ?_ fun h_1_2_5_9 => ?_
        · skip
          refine coreS.step E_ok [6, 8] (by kernel_rfl) (by simp) ?_
          refine anyS.cons rfl ?_ ?_
          · skip
            simp [encCirc_eq, encNote_eq, h6, hR]
            repeat refine ⟨by first | omega | assumption | (simp only [maxLen]; omega) | (intros; omega) | decide, ?_⟩
            exact contS.mk (by simp [Weak, TW, T.plain, encCirc_eq, encNote_eq]) h_1_2_5_6_9 (by kernel_rfl)
          refine anyS.cons rfl ?_ ?_
          · skip
            simp [encCirc_eq, encNote_eq, h6, hR]
            repeat refine ⟨by first | omega | assumption | (simp only [maxLen]; omega) | (intros; omega) | decide, ?_⟩
            exact contS.mk (by simp [Weak, TW, T.plain, encCirc_eq, encNote_eq]) h_1_2_5_8_9 (by kernel_rfl)
          exact anyS.nil
        refine contS.cut 7 #[true, true, true, true, true, false, true, false, true, false, false, false, false, false] [(0, T.val (zt4x1 c)), (1, T.val (zt4x3 n)), (2, T.box (zt4x2 c)), (3, T.box (zt4x4 n)), (4, T.val (D.bool false)), (6, T.val (D.bool false)), (11, T.val (D.bool true)), (13, T.opt [false] (T.val (zt4x3 n))), (15, T.opt [false] (T.val (zt4x1 c)))] ?_ fun h_1_2_6_8 => ?_
        · skip
          refine coreS.step E_ok [5, 9] (by kernel_rfl) (by simp) ?_
          refine anyS.cons rfl ?_ ?_
          · skip
            simp [encCirc_eq, encNote_eq, h6, hR]
            repeat refine ⟨by first | omega | assumption | (simp only [maxLen]; omega) | (intros; omega) | decide, ?_⟩
            exact contS.mk (by simp [Weak, TW, T.plain, encCirc_eq, encNote_eq]) h_1_2_5_6_8 (by kernel_rfl)
          refine anyS.cons rfl ?_ ?_
          · skip
            simp [encCirc_eq, encNote_eq, h6, hR]
            repeat refine ⟨by first | omega | assumption | (simp only [maxLen]; omega) | (intros; omega) | decide, ?_⟩
            exact contS.mk (by simp [Weak, TW, T.plain, encCirc_eq, encNote_eq]) h_1_2_6_8_9 (by kernel_rfl)
          exact anyS.nil
        refine contS.cut 7 #[true, true, true, true, true, false, true, false, false, true, false, false, false, false] [(0, T.val (zt4x1 c)), (1, T.val (zt4x3 n)), (2, T.box (zt4x2 c)), (3, T.box (zt4x4 n)), (4, T.val (D.bool false)), (6, T.val (D.bool false)), (11, T.val (D.bool true)), (13, T.opt [false] (T.val (zt4x3 n))), (16, T.opt [false] (T.val (zt4x3 n)))] ?_ fun h_1_2_6_9 => ?_
        · skip
          refine coreS.step E_ok [5, 8] (by kernel_rfl) (by simp) ?_
          refine anyS.cons rfl ?_ ?_
          · skip
            simp [encCirc_eq, encNote_eq, h6, hR]
            repeat refine ⟨by first | omega | assumption | (simp only [maxLen]; omega) | (intros; omega) | decide, ?_⟩
            exact contS.mk (by simp [Weak, TW, T.plain, encCirc_eq, encNote_eq]) h_1_2_5_6_9 (by kernel_rfl)
          refine anyS.cons rfl ?_ ?_
          · skip
            simp [encCirc_eq, encNote_eq, h6, hR]
            repeat refine ⟨by first | omega | assumption | (simp only [maxLen]; omega) | (intros; omega) | decide, ?_⟩
            exact contS.mk (by simp [Weak, TW, T.plain, encCirc_eq, encNote_eq]) h_1_2_6_8_9 (by kernel_rfl)
          exact anyS.nil
        refine contS.cut 7 #[true, true, true, true, true, false, false, false, true, true, false, false, false, false] [(0, T.val (zt4x1 c)), (1, T.val (zt4x3 n)), (2, T.box (zt4x2 c)), (3, T.box (zt4x4 n)), (4, T.val (D.bool false)), (6, T.val (D.bool false)), (11, T.val (D.bool true)), (15, T.opt [false] (T.val (zt4x1 c))), (16, T.opt [false] (T.val (zt4x3 n)))] ?_ fun h_1_2_8_9 => ?_
        · skip
          refine coreS.step E_ok [5, 6] (by kernel_rfl) (by simp) ?_
          refine anyS.cons rfl ?_ ?_
          · skip
            simp [encCirc_eq, encNote_eq, h6, hR]
            repeat refine ⟨by first | omega | assumption | (simp only [maxLen]; omega) | (intros; omega) | decide, ?_⟩
            exact contS.mk (by simp [Weak, TW, T.plain, encCirc_eq, encNote_eq]) h_1_2_5_8_9 (by kernel_rfl)
          refine anyS.cons rfl ?_ ?_
          · skip
            simp [encCirc_eq, encNote_eq, h6, hR]
            repeat refine ⟨by first | omega | assumption | (simp only [maxLen]; omega) | (intros; omega) | decide, ?_⟩
            exact contS.mk (by simp [Weak, TW, T.plain, encCirc_eq, encNote_eq]) h_1_2_6_8_9 (by kernel_rfl)
          exact anyS.nil
        refine contS.cut 8 #[true, true, true, true, true, true, false, false, false, false, false, false, false, false] [(0, T.val (zt4x1 c)), (1, T.val (zt4x3 n)), (2, T.box (zt4x2 c)), (3, T.box (zt4x4 n)), (4, T.val (D.bool false)), (6, T.val (D.bool false)), (11, T.val (D.bool true)), (12, T.opt [false] (T.val (zt4x1 c)))] ?_ fun h_1_2_5 => ?_
        · skip
          refine coreS.step E_ok [6, 8, 9] (by kernel_rfl) (by simp) ?_
          refine anyS.cons rfl ?_ ?_
          · skip
            simp [encCirc_eq, encNote_eq, h6, hR]
            repeat refine ⟨by first | omega | assumption | (simp only [maxLen]; omega) | (intros; omega) | decide, ?_⟩
            exact contS.mk (by simp [Weak, TW, T.plain, encCirc_eq, encNote_eq]) h_1_2_5_6 (by kernel_rfl)
          refine anyS.cons rfl ?_ ?_
          · skip
            simp [encCirc_eq, encNote_eq, h6, hR]
            repeat refine ⟨by first | omega | assumption | (simp only [maxLen]; omega) | (intros; omega) | decide, ?_⟩
            exact contS.mk (by simp [Weak, TW, T.plain, encCirc_eq, encNote_eq]) h_1_2_5_8 (by kernel_rfl)
          refine anyS.cons rfl ?_ ?_
          · skip
            simp [encCirc_eq, encNote_eq, h6, hR]
            repeat refine ⟨by first | omega | assumption | (simp only [maxLen]; omega) | (intros; omega) | decide, ?_⟩
            exact contS.mk (by simp [Weak, TW, T.plain, encCirc_eq, encNote_eq]) h_1_2_5_9 (by kernel_rfl)
          exact anyS.nil
        refine contS.cut 8 #[true, true, true, true, true, false, true, false, false, false, false, false, false, false] [(0, T.val (zt4x1 c)), (1, T.val (zt4x3 n)), (2, T.box (zt4x2 c)), (3, T.box (zt4x4 n)), (4, T.val (D.bool false)), (6, T.val (D.bool false)), (11, T.val (D.bool true)), (13, T.opt [false] (T.val (zt4x3 n)))] ?_ fun h_1_2_6 => ?_
        · skip
          refine coreS.step E_ok [5, 8, 9] (by kernel_rfl) (by simp) ?_
          refine anyS.cons rfl ?_ ?_
          · skip
            simp [encCirc_eq, encNote_eq, h6, hR]
            repeat refine ⟨by first | omega | assumption | (simp only [maxLen]; omega) | (intros; omega) | decide, ?_⟩
            exact contS.mk (by simp [Weak, TW, T.plain, encCirc_eq, encNote_eq]) h_1_2_5_6 (by kernel_rfl)
          refine anyS.cons rfl ?_ ?_
          · skip
            simp [encCirc_eq, encNote_eq, h6, hR]
            repeat refine ⟨by first | omega | assumption | (simp only [maxLen]; omega) | (intros; omega) | decide, ?_⟩
            exact contS.mk (by simp [Weak, TW, T.plain, encCirc_eq, encNote_eq]) h_1_2_6_8 (by kernel_rfl)
          refine anyS.cons rfl ?_ ?_
          · skip
            simp [encCirc_eq, encNote_eq, h6, hR]
            repeat refine ⟨by first | omega | assumption | (simp only [maxLen]; omega) | (intros; omega) | decide, ?_⟩
            exact contS.mk (by simp [Weak, TW, T.plain, encCirc_eq, encNote_eq]) h_1_2_6_9 (by kernel_rfl)
          exact anyS.nil
        refine contS.cut 8 #[true, true, true, true, true, false, false, false, true, false, false, false, false, false] [(0, T.val (zt4x1 c)), (1, T.val (zt4x3 n)), (2, T.box (zt4x2 c)), (3, T.box (zt4x4 n)), (4, T.val (D.bool false)), (6, T.val (D.bool false)), (11, T.val (D.bool true)), (15, T.opt [false] (T.val (zt4x1 c)))] ?_ fun h_1_2_8 => ?_
        · skip
          refine coreS.step E_ok [5, 6, 9] (by kernel_rfl) (by simp) ?_
          refine anyS.cons rfl ?_ ?_
          · skip
            simp [encCirc_eq, encNote_eq, h6, hR]
            repeat refine ⟨by first | omega | assumption | (simp only [maxLen]; omega) | (intros; omega) | decide, ?_⟩
            exact contS.mk (by simp [Weak, TW, T.plain, encCirc_eq, encNote_eq]) h_1_2_5_8 (by kernel_rfl)
          refine anyS.cons rfl ?_ ?_
          · skip
            simp [encCirc_eq, encNote_eq, h6, hR]
            repeat refine ⟨by first | omega | assumption | (simp only [maxLen]; omega) | (intros; omega) | decide, ?_⟩
            exact contS.mk (by simp [Weak, TW, T.plain, encCirc_eq, encNote_eq]) h_1_2_6_8 (by kernel_rfl)
          refine anyS.cons rfl ?_ ?_
          · skip
            simp [encCirc_eq, encNote_eq, h6, hR]
            repeat refine ⟨by first | omega | assumption | (simp only [maxLen]; omega) | (intros; omega) | decide, ?_⟩
            exact contS.mk (by simp [Weak, TW, T.plain, encCirc_eq, encNote_eq]) h_1_2_8_9 (by kernel_rfl)
          exact anyS.nil
        refine contS.cut 8 #[true, true, true, true, true, false, false, false, false, true, false, false, false, false] [(0, T.val (zt4x1 c)), (1, T.val (zt4x3 n)), (2, T.box (zt4x2 c)), (3, T.box (zt4x4 n)), (4, T.val (D.bool false)), (6, T.val (D.bool false)), (11, T.val (D.bool true)), (16, T.opt [false] (T.val (zt4x3 n)))] ?_ fun h_1_2_9 => ?_
        · skip
          refine coreS.step E_ok [5, 6, 8] (by kernel_rfl) (by simp) ?_
          refine anyS.cons rfl ?_ ?_
          · skip
            simp [encCirc_eq, encNote_eq, h6, hR]
            repeat refine ⟨by first | omega | assumption | (simp only [maxLen]; omega) | (intros; omega) | decide, ?_⟩
            exact contS.mk (by simp [Weak, TW, T.plain, encCirc_eq, encNote_eq]) h_1_2_5_9 (by kernel_rfl)
          refine anyS.cons rfl ?_ ?_
          · skip
            simp [encCirc_eq, encNote_eq, h6, hR]
            repeat refine ⟨by first | omega | assumption | (simp only [maxLen]; omega) | (intros; omega) | decide, ?_⟩
            exact contS.mk (by simp [Weak, TW, T.plain, encCirc_eq, encNote_eq]) h_1_2_6_9 (by kernel_rfl)
          refine anyS.cons rfl ?_ ?_
          · skip
            simp [encCirc_eq, encNote_eq, h6, hR]
            repeat refine ⟨by first | omega | assumption | (simp only [maxLen]; omega) | (intros; omega) | decide, ?_⟩
            exact contS.mk (by simp [Weak, TW, T.plain, encCirc_eq, encNote_eq]) h_1_2_8_9 (by kernel_rfl)
          exact anyS.nil
        refine contS.cut 9 #[true, true, true, true, true, false, false, false, false, false, false, false, false, false] [(0, T.val (zt4x1 c)), (1, T.val (zt4x3 n)), (2, T.box (zt4x2 c)), (3, T.box (zt4x4 n)), (4, T.val (D.bool false)), (6, T.val (D.bool false)), (11, T.val (D.bool true))] ?_ fun h_1_2 => ?_
        · skip
          refine coreS.step E_ok [5, 6, 8, 9] (by kernel_rfl) (by simp) ?_
          refine anyS.cons rfl ?_ ?_
          · skip
            simp [encCirc_eq, encNote_eq, h6, hR]
            repeat refine ⟨by first | omega | assumption | (simp only [maxLen]; omega) | (intros; omega) | decide, ?_⟩
            exact contS.mk (by simp [Weak, TW, T.plain, encCirc_eq, encNote_eq]) h_1_2_5 (by kernel_rfl)
          refine anyS.cons rfl ?_ ?_
          · skip
            simp [encCirc_eq, encNote_eq, h6, hR]
            repeat refine ⟨by first | omega | assumption | (simp only [maxLen]; omega) | (intros; omega) | decide, ?_⟩
            exact contS.mk (by simp [Weak, TW, T.plain, encCirc_eq, encNote_eq]) h_1_2_6 (by kernel_rfl)
          refine anyS.cons rfl ?_ ?_
          · skip
            simp [encCirc_eq, encNote_eq, h6, hR]
            repeat refine ⟨by first | omega | assumption | (simp only [maxLen]; omega) | (intros; omega) | decide, ?_⟩
            exact contS.mk (by simp [Weak, TW, T.plain, encCirc_eq, encNote_eq]) h_1_2_8 (by kernel_rfl)
          refine anyS.cons rfl ?_ ?_
          · skip
            simp [encCirc_eq, encNote_eq, h6, hR]
            repeat refine ⟨by first | omega | assumption | (simp only [maxLen]; omega) | (intros; omega) | decide, ?_⟩
            exact contS.mk (by simp [Weak, TW, T.plain, encCirc_eq, encNote_eq]) h_1_2_9 (by kernel_rfl)
          exact anyS.nil
        refine contS.cut 12 #[true, true, false, false, false, false, false, false, false, false, false, false, false, false] [(0, T.val (zt4x1 c)), (1, T.val (zt4x3 n)), (2, T.box (zt4x2 c)), (3, T.box (zt4x4 n)), (4, T.val (D.bool false)), (6, T.val (D.bool false)), (8, T.val (encPatrs c.patrons))] ?_ fun h_1 => ?_
        · skip
          refine coreS.step E_ok [2] (by kernel_rfl) (by simp) ?_
          refine anyS.cons rfl ?_ ?_
          · skip
            simp [encCirc_eq, encNote_eq, h6, hR]
            repeat refine ⟨by first | omega | assumption | (simp only [maxLen]; omega) | (intros; omega) | decide, ?_⟩
            refine meet.of (ref28_Small c.patrons) ?_
            simp [encCirc_eq, encNote_eq, h6, hR]
            repeat refine ⟨by first | omega | assumption | (simp only [maxLen]; omega) | (intros; omega) | decide, ?_⟩
            refine contS.now (f' := 11) (l' := #[true, true, true, false, false, false, false, false, false, false, false, false, false, false]) ?_ rfl (by kernel_rfl)
            refine coreS.dry E_ok (by kernel_rfl) 3 rfl rfl (by kernel_rfl) (by kernel_rfl) ?_
            simp [encCirc_eq, encNote_eq, h6, hR]
            repeat refine ⟨by first | omega | assumption | (simp only [maxLen]; omega) | (intros; omega) | decide, ?_⟩
            refine contS.now (f' := 10) (l' := #[true, true, true, true, false, false, false, false, false, false, false, false, false, false]) ?_ rfl (by kernel_rfl)
            refine coreS.dry E_ok (by kernel_rfl) 4 rfl rfl (by kernel_rfl) (by kernel_rfl) ?_
            simp [encCirc_eq, encNote_eq, h6, hR]
            repeat refine ⟨by first | omega | assumption | (simp only [maxLen]; omega) | (intros; omega) | decide, ?_⟩
            exact contS.mk (by simp [Weak, TW, T.plain, encCirc_eq, encNote_eq]) h_1_2 (by kernel_rfl)
          exact anyS.nil
        refine contS.cut 13 #[true, false, false, false, false, false, false, false, false, false, false, false, false, false] [(0, T.val (zt4x1 c)), (1, T.val (zt4x3 n)), (2, T.box (zt4x2 c)), (3, T.box (zt4x4 n)), (4, T.val (D.bool false)), (6, T.val (D.bool false)), (7, T.ptr 2 2)] ?_ fun h_ => ?_
        · skip
          refine coreS.step E_ok [1] (by kernel_rfl) (by simp) ?_
          refine anyS.cons rfl ?_ ?_
          · skip
            simp [encCirc_eq, encNote_eq, h6, hR]
            repeat refine ⟨by first | omega | assumption | (simp only [maxLen]; omega) | (intros; omega) | decide, ?_⟩
            exact contS.mk (by simp [Weak, TW, T.plain, encCirc_eq, encNote_eq]) h_1 (by kernel_rfl)
          exact anyS.nil
        refine contS.now (f' := 14) (l' := #[false, false, false, false, false, false, false, false, false, false, false, false, false, false]) ?_ rfl (by kernel_rfl)
        refine coreS.dry E_ok (by kernel_rfl) 0 rfl rfl (by kernel_rfl) (by kernel_rfl) ?_
        simp [encCirc_eq, encNote_eq, h6, hR]
        repeat refine ⟨by first | omega | assumption | (simp only [maxLen]; omega) | (intros; omega) | decide, ?_⟩
        exact contS.mk (by simp [Weak, TW, T.plain, encCirc_eq, encNote_eq]) h_ (by kernel_rfl)
      refine hK _ ?_
      clear hK K
      refine AWp.ret ?_
      repeat first | refine thenN ?_ | refine thenX ?_ | refine thenR ?_ | refine blockN ?_ | refine blockR ?_ | refine blockX ?_ | refine blockM rfl ?_
      simp [RetOk, RV]
end Go.Proofs.YtjpjndfdncalfaaDoor
