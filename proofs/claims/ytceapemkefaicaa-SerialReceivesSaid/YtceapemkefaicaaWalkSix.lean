/-
  What the functions compute that the statement reaches: contracts, and the plain laws between them. Conditions stand at each theorem.
-/
import Derived.Test.YtceapemkefaicaaWalkFive
set_option linter.unusedVariables false
set_option linter.unusedSimpArgs false
set_option maxRecDepth 100000
set_option linter.unusedSimpArgs false
set_option linter.unusedVariables false
namespace Go.Proofs.Ytceapemkefaicaa
open Go Ab Pl
set_option maxHeartbeats 8000000 in
theorem serial_Held (s : Ser) (hl : s.iss.length ≤ 1000) (hv : ∀ x ∈ s.iss, 0 ≤ x.vol ∧ x.vol ≤ 100000) : ACalls E.P 34 [encSer s] (.d (encSpns (heldR s))) := by
  refine ACalls.intro E_ok Try.func34 rfl rfl Try.ntmps34 Try.results34 (Nat.le_of_ble_eq_true rfl) fun hok base S0 w0 => ?_
  -- region 0
  refine AWp.rseq E_ok [0, 1, 2, 3, 4, 5, 6, 8, 9, 10, 11, 35, 51] fun K hK => ?_
  simp [encSer_eq, encIsss_eq, encIss_eq, encSpn_eq, encSpns_eq]
  try simp (disch := omega) only [wrap_i64]
  repeat refine ⟨by first | omega | assumption | (simp only [maxLen]; omega) | (intros; omega) | decide, ?_⟩
  refine hK _ ?_
  clear hK K
  -- region 1
  refine AWp.rseq E_ok [0, 1, 2, 3, 4, 5, 6, 8, 9, 10, 11, 35, 51] fun K hK => ?_
  simp [encSer_eq, encIsss_eq, encIss_eq, encSpn_eq, encSpns_eq]
  try simp (disch := omega) only [wrap_i64]
  repeat refine ⟨by first | omega | assumption | (simp only [maxLen]; omega) | (intros; omega) | decide, ?_⟩
  refine hK _ ?_
  clear hK K
  refine AWp.seq ?_
  -- region 2
  refine AWp.rseq E_ok [0, 1, 2, 3, 4, 5, 6, 8, 9, 10, 11, 35, 51] fun K hK => ?_
  simp [encSer_eq, encIsss_eq, encIss_eq, encSpn_eq, encSpns_eq]
  try simp (disch := omega) only [wrap_i64]
  repeat refine ⟨by first | omega | assumption | (simp only [maxLen]; omega) | (intros; omega) | decide, ?_⟩
  refine hK _ ?_
  clear hK K
  refine AWp.block ?_
  refine AWp.range (l := s.iss) (F := hldF s.iss s.pat.per) (tot := hldF s.iss s.pat.per (0, []) s.iss) (fun k y => match y with | (i, o) => i = k ∧ o.length ≤ k ∧ ∀ y ∈ o, 0 ≤ y.til ∧ y.til ≤ 100000) (fun k y => match y with | (i, o) => [(0, T.val (D.agg [D.int IntKind.i64 s.rcd, D.int IntKind.i64 s.pat.start, D.int IntKind.i64 s.pat.every, D.int IntKind.i64 s.pat.per, D.int IntKind.i64 s.pat.first, encInts s.pat.skip, encInts s.pat.dbl, D.int IntKind.i64 s.next, (D.agg [D.int IntKind.i64 zIss.vol, D.int IntKind.i64 zIss.num, D.int IntKind.i64 zIss.last, D.int IntKind.i64 zIss.day, D.int IntKind.i64 zIss.st, D.int IntKind.i64 zIss.item]).slice (List.map encIss s.iss)])), (1, T.box [C.d (D.int IntKind.i64 s.rcd), C.d (D.int IntKind.i64 s.pat.start), C.d (D.int IntKind.i64 s.pat.every), C.d (D.int IntKind.i64 s.pat.per), C.d (D.int IntKind.i64 s.pat.first), C.d (encInts s.pat.skip), C.d (encInts s.pat.dbl), C.d (D.int IntKind.i64 s.next), C.d ((D.agg [D.int IntKind.i64 zIss.vol, D.int IntKind.i64 zIss.num, D.int IntKind.i64 zIss.last, D.int IntKind.i64 zIss.day, D.int IntKind.i64 zIss.st, D.int IntKind.i64 zIss.item]).slice (List.map encIss s.iss))]), (3, T.own true (encSpn zSpn) (o.map encSpn)), (8, T.val ((D.agg [D.int IntKind.i64 zIss.vol, D.int IntKind.i64 zIss.num, D.int IntKind.i64 zIss.last, D.int IntKind.i64 zIss.day, D.int IntKind.i64 zIss.st, D.int IntKind.i64 zIss.item]).slice (List.map encIss s.iss))), (9, T.val (D.int IntKind.i64 ↑s.iss.length)), (10, T.val (.int .i64 k))]) (0, []) ?_ rfl ?_ ?_
  · simp [Weak, TW, encSer_eq, encIsss_eq, encIss_eq, encSpn_eq, encSpns_eq]
  · exact ⟨rfl, by simp, by simp⟩
  rintro k ⟨i, o⟩ hk hs hi
  try simp only at hi
  -- region 3
  refine AWp.rseq E_ok [0, 1, 2, 3, 4, 5, 6, 8, 9, 10, 11, 35, 51] fun K hK => ?_
  simp [encSer_eq, encIsss_eq, encIss_eq, encSpn_eq, encSpns_eq]
  try simp (disch := omega) only [wrap_i64]
  repeat refine ⟨by first | omega | assumption | (simp only [maxLen]; omega) | (intros; omega) | decide, ?_⟩
  refine hK _ ?_
  clear hK K
  refine AWp.seq ?_
  refine AWp.cond rfl (fun h11 => ?_) (fun h11 => ?_)
  · try simp at h11
    obtain ⟨x, hx, hxx, hd⟩ := at_indexG (l := s.iss) h11
    rw [hd] at hs
    have hvx := hv x (List.mem_of_getElem? hx)
    rw [hi.1, hldF_go] at hs
    refine AWp.skip ?_
    repeat first | refine thenN ?_ | refine thenX ?_ | refine thenR ?_ | refine blockN ?_ | refine blockR ?_ | refine blockX ?_ | refine blockM rfl ?_
    refine AWp.seq ?_
    refine AWp.block ?_
    -- region 4
    refine AWp.rseq E_ok [0, 1, 2, 3, 4, 5, 6, 8, 9, 10, 11, 35, 51] fun K hK => ?_
    simp [encSer_eq, encIsss_eq, encIss_eq, encSpn_eq, encSpns_eq, h11, hx, hxx]
    try simp (disch := omega) only [wrap_i64]
    repeat refine ⟨by first | omega | assumption | (simp only [maxLen]; omega) | (intros; omega) | decide, ?_⟩
    refine hK _ ?_
    clear hK K
    refine AWp.seq ?_
    rcases Nat.eq_zero_or_pos k with hk0 | hk0
    · skip
      have hw9 : IntKind.i64.wrap (-1) = -1 := by rw [wrap_i64] <;> omega
      have hz9 : (-1 : Int).toNat = 0 := rfl
      have hz7 : ∀ l : List Iss, l[(-1 : Int).toNat]? = l[0]? := fun _ => rfl
      have hx0 : s.iss[0]? = some x := hk0 ▸ hx
      -- region 5
      refine AWp.rseqQ E_ok mixed [0, 1, 2, 3, 4, 5, 6, 8, 9, 10, 11, 35, 51] (by kernel_rfl) fun K hK => ?_
      simp [encSer_eq, encIsss_eq, encIss_eq, encSpn_eq, encSpns_eq, h11, hx, hxx, hk0, hz9, hz7, hx0, hw9]
      try simp (disch := omega) only [wrap_i64]
      repeat refine ⟨by first | omega | assumption | (simp only [maxLen]; omega) | (intros; omega) | decide, ?_⟩
      refine meet.of (serial_held s x.vol (by omega)) ?_
      simp [encSer_eq, encIsss_eq, encIss_eq, encSpn_eq, encSpns_eq, h11, hx, hxx, hk0, hz9, hz7, hx0, hw9]
      try simp (disch := omega) only [wrap_i64]
      repeat refine ⟨by first | omega | assumption | (simp only [maxLen]; omega) | (intros; omega) | decide, ?_⟩
      refine hK _ ?_
      clear hK K
      refine AWp.cond rfl (fun h35 => ?_) (fun h35 => ?_)
      · try simp at h35
        have hc : (0 < k ∧ (s.iss.getD (k - 1) zIss).vol = x.vol) ∨ heldB s.iss s.pat.per x.vol = false := by first | (right; simpa using h35) | (rw [hgy]; rcases h35 with h | h <;> first | exact .inl ⟨hk0, h⟩ | exact .inr h | exact .inl ⟨hk0, by simpa using h⟩ | exact .inr (by simpa using h))
        rw [if_pos hc] at hs
        refine AWp.exit ?_
        repeat first | refine thenN ?_ | refine thenX ?_ | refine thenR ?_ | refine blockN ?_ | refine blockR ?_ | refine blockX ?_ | refine blockM rfl ?_
        -- region 10
        refine AWp.rend E_ok [0, 1, 2, 3, 4, 5, 6, 8, 9, 10, 11, 35, 51] fun K hK => ?_
        simp [encSer_eq, encIsss_eq, encIss_eq, encSpn_eq, encSpns_eq, h11, hx, hxx, hk0, hz9, hz7, hx0, hw9]
        try simp (disch := omega) only [wrap_i64]
        repeat refine ⟨by first | omega | assumption | (simp only [maxLen]; omega) | (intros; omega) | decide, ?_⟩
        refine hK _ ?_
        clear hK K
        repeat first | refine thenN ?_ | refine thenX ?_ | refine thenR ?_ | refine blockN ?_ | refine blockR ?_ | refine blockX ?_ | refine blockM rfl ?_
        have hw : IntKind.i64.wrap ((k : Int) + 1) = (k : Int) + 1 := by rw [wrap_i64] <;> omega
        skip
        refine ⟨_, h11, hs, ?_, ?_⟩
        · exact ⟨by omega, by (try simp only [List.length_append, List.length_singleton, List.length_set]); omega, by first | exact hi.2.2 | exact til_set (P := fun t => 0 ≤ t ∧ t ≤ 100000) hi.2.2 hvx | exact til_app (P := fun t => 0 ≤ t ∧ t ≤ 100000) hi.2.2 hvx⟩
        · simp [Weak, TW, hw, encSer_eq, encIsss_eq, encIss_eq, encSpn_eq, encSpns_eq] <;> (first | omega | exact ⟨ho, by omega⟩)
      · try simp at h35
        have hc : ¬ ((0 < k ∧ (s.iss.getD (k - 1) zIss).vol = x.vol) ∨ heldB s.iss s.pat.per x.vol = false) := by first | (rintro (⟨h, _⟩ | h) <;> first | omega | (rw [h] at h35; simp at h35)) | (rw [hgy]; rintro (⟨_, h⟩ | h) <;> simp_all)
        rw [if_neg hc] at hs
        refine AWp.skip ?_
        repeat first | refine thenN ?_ | refine thenX ?_ | refine thenR ?_ | refine blockN ?_ | refine blockR ?_ | refine blockX ?_ | refine blockM rfl ?_
        -- region 6
        refine AWp.rseq E_ok [0, 1, 2, 3, 4, 5, 6, 8, 9, 10, 11, 35, 51] fun K hK => ?_
        simp [encSer_eq, encIsss_eq, encIss_eq, encSpn_eq, encSpns_eq, h11, hx, hxx, hk0, hz9, hz7, hx0, hw9]
        try simp (disch := omega) only [wrap_i64]
        repeat refine ⟨by first | omega | assumption | (simp only [maxLen]; omega) | (intros; omega) | decide, ?_⟩
        refine hK _ ?_
        clear hK K
        rcases Decidable.em (o = []) with ho | ho
        · skip
          have hw9 : IntKind.i64.wrap (-1) = -1 := by rw [wrap_i64] <;> omega
          have hz9 : (-1 : Int).toNat = 0 := rfl
          have hadd : ∀ v, addS o v = o ++ [⟨v, v⟩] := fun v => by rw [ho]; rfl
          -- region 7
          refine AWp.rseqQ E_ok mixed [0, 1, 2, 3, 4, 5, 6, 8, 9, 10, 11, 35, 51] (by kernel_rfl) fun K hK => ?_
          simp [encSer_eq, encIsss_eq, encIss_eq, encSpn_eq, encSpns_eq, h11, hx, hxx, hk0, hz9, hz7, hx0, hw9, ho, hw9, hz9]
          try simp (disch := omega) only [wrap_i64]
          repeat refine ⟨by first | omega | assumption | (simp only [maxLen]; omega) | (intros; omega) | decide, ?_⟩
          refine hK _ ?_
          clear hK K
          refine AWp.cond rfl (fun h51 => ?_) (fun h51 => ?_)
          · exact absurd h51 (by simp)
          · try simp at h51
            first | rw [hadd x.vol, if_neg (by first | exact h51 | simpa using h51)] at hs | rw [hadd x.vol] at hs
            -- region 9
            refine AWp.rend E_ok [0, 1, 2, 3, 4, 5, 6, 8, 9, 10, 11, 35, 51] fun K hK => ?_
            simp [encSer_eq, encIsss_eq, encIss_eq, encSpn_eq, encSpns_eq, h11, hx, hxx, hk0, hz9, hz7, hx0, hw9, ho, hw9, hz9]
            try simp (disch := omega) only [wrap_i64]
            repeat refine ⟨by first | omega | assumption | (simp only [maxLen]; omega) | (intros; omega) | decide, ?_⟩
            refine hK _ ?_
            clear hK K
            repeat first | refine thenN ?_ | refine thenX ?_ | refine thenR ?_ | refine blockN ?_ | refine blockR ?_ | refine blockX ?_ | refine blockM rfl ?_
            -- region 10
            refine AWp.rend E_ok [0, 1, 2, 3, 4, 5, 6, 8, 9, 10, 11, 35, 51] fun K hK => ?_
            simp [encSer_eq, encIsss_eq, encIss_eq, encSpn_eq, encSpns_eq, h11, hx, hxx, hk0, hz9, hz7, hx0, hw9, ho, hw9, hz9]
            try simp (disch := omega) only [wrap_i64]
            repeat refine ⟨by first | omega | assumption | (simp only [maxLen]; omega) | (intros; omega) | decide, ?_⟩
            refine hK _ ?_
            clear hK K
            repeat first | refine thenN ?_ | refine thenX ?_ | refine thenR ?_ | refine blockN ?_ | refine blockR ?_ | refine blockX ?_ | refine blockM rfl ?_
            have hw : IntKind.i64.wrap ((k : Int) + 1) = (k : Int) + 1 := by rw [wrap_i64] <;> omega
            skip
            refine ⟨_, h11, hs, ?_, ?_⟩
            · exact ⟨by omega, by (try simp only [List.length_append, List.length_singleton, List.length_set]); omega, by first | exact hi.2.2 | exact til_set (P := fun t => 0 ≤ t ∧ t ≤ 100000) hi.2.2 hvx | exact til_app (P := fun t => 0 ≤ t ∧ t ≤ 100000) hi.2.2 hvx⟩
            · simp [Weak, TW, hw, encSer_eq, encIsss_eq, encIss_eq, encSpn_eq, encSpns_eq] <;> (first | omega | exact ⟨ho, by omega⟩)
        · skip
          obtain ⟨n, z, hn, hon, hz1, hz2, hzo, _, hadd⟩ := last_at ho
          have hzt := hi.2.2 z hzo
          have hwn : IntKind.i64.wrap ((n : Int) + 1 - 1) = (n : Int) := by rw [wrap_i64] <;> omega
          have hwn2 : IntKind.i64.wrap (n : Int) = (n : Int) := by rw [wrap_i64] <;> omega
          have hwt : IntKind.i64.wrap (z.til + 1) = z.til + 1 := by rw [wrap_i64] <;> omega
          -- region 7
          refine AWp.rseqQ E_ok mixed [0, 1, 2, 3, 4, 5, 6, 8, 9, 10, 11, 35, 51] (by kernel_rfl) fun K hK => ?_
          simp [encSer_eq, encIsss_eq, encIss_eq, encSpn_eq, encSpns_eq, h11, hx, hxx, hk0, hz9, hz7, hx0, hw9, hon, hn, hz1, hz2, hwn, hwn2, hwt]
          try simp (disch := omega) only [wrap_i64]
          repeat refine ⟨by first | omega | assumption | (simp only [maxLen]; omega) | (intros; omega) | decide, ?_⟩
          refine hK _ ?_
          clear hK K
          refine AWp.cond rfl (fun h51 => ?_) (fun h51 => ?_)
          · try simp at h51
            rw [hadd x.vol, if_pos (by first | exact h51 | simpa using h51)] at hs
            -- region 8
            refine AWp.rend E_ok [0, 1, 2, 3, 4, 5, 6, 8, 9, 10, 11, 35, 51] fun K hK => ?_
            simp [encSer_eq, encIsss_eq, encIss_eq, encSpn_eq, encSpns_eq, h11, hx, hxx, hk0, hz9, hz7, hx0, hw9, hon, hn, hz1, hz2, hwn, hwn2, hwt]
            try simp (disch := omega) only [wrap_i64]
            repeat refine ⟨by first | omega | assumption | (simp only [maxLen]; omega) | (intros; omega) | decide, ?_⟩
            refine hK _ ?_
            clear hK K
            repeat first | refine thenN ?_ | refine thenX ?_ | refine thenR ?_ | refine blockN ?_ | refine blockR ?_ | refine blockX ?_ | refine blockM rfl ?_
            -- region 10
            refine AWp.rend E_ok [0, 1, 2, 3, 4, 5, 6, 8, 9, 10, 11, 35, 51] fun K hK => ?_
            simp [encSer_eq, encIsss_eq, encIss_eq, encSpn_eq, encSpns_eq, h11, hx, hxx, hk0, hz9, hz7, hx0, hw9, hon, hn, hz1, hz2, hwn, hwn2, hwt]
            try simp (disch := omega) only [wrap_i64]
            repeat refine ⟨by first | omega | assumption | (simp only [maxLen]; omega) | (intros; omega) | decide, ?_⟩
            refine hK _ ?_
            clear hK K
            repeat first | refine thenN ?_ | refine thenX ?_ | refine thenR ?_ | refine blockN ?_ | refine blockR ?_ | refine blockX ?_ | refine blockM rfl ?_
            have hw : IntKind.i64.wrap ((k : Int) + 1) = (k : Int) + 1 := by rw [wrap_i64] <;> omega
            skip
            refine ⟨_, h11, hs, ?_, ?_⟩
            · exact ⟨by omega, by (try simp only [List.length_append, List.length_singleton, List.length_set]); omega, by first | exact hi.2.2 | exact til_set (P := fun t => 0 ≤ t ∧ t ≤ 100000) hi.2.2 hvx | exact til_app (P := fun t => 0 ≤ t ∧ t ≤ 100000) hi.2.2 hvx⟩
            · simp [Weak, TW, hw, encSer_eq, encIsss_eq, encIss_eq, encSpn_eq, encSpns_eq] <;> (first | omega | exact ⟨ho, by omega⟩)
          · try simp at h51
            first | rw [hadd x.vol, if_neg (by first | exact h51 | simpa using h51)] at hs | rw [hadd x.vol] at hs
            -- region 9
            refine AWp.rend E_ok [0, 1, 2, 3, 4, 5, 6, 8, 9, 10, 11, 35, 51] fun K hK => ?_
            simp [encSer_eq, encIsss_eq, encIss_eq, encSpn_eq, encSpns_eq, h11, hx, hxx, hk0, hz9, hz7, hx0, hw9, hon, hn, hz1, hz2, hwn, hwn2, hwt]
            try simp (disch := omega) only [wrap_i64]
            repeat refine ⟨by first | omega | assumption | (simp only [maxLen]; omega) | (intros; omega) | decide, ?_⟩
            refine hK _ ?_
            clear hK K
            repeat first | refine thenN ?_ | refine thenX ?_ | refine thenR ?_ | refine blockN ?_ | refine blockR ?_ | refine blockX ?_ | refine blockM rfl ?_
            -- region 10
            refine AWp.rend E_ok [0, 1, 2, 3, 4, 5, 6, 8, 9, 10, 11, 35, 51] fun K hK => ?_
            simp [encSer_eq, encIsss_eq, encIss_eq, encSpn_eq, encSpns_eq, h11, hx, hxx, hk0, hz9, hz7, hx0, hw9, hon, hn, hz1, hz2, hwn, hwn2, hwt]
            try simp (disch := omega) only [wrap_i64]
            repeat refine ⟨by first | omega | assumption | (simp only [maxLen]; omega) | (intros; omega) | decide, ?_⟩
            refine hK _ ?_
            clear hK K
            repeat first | refine thenN ?_ | refine thenX ?_ | refine thenR ?_ | refine blockN ?_ | refine blockR ?_ | refine blockX ?_ | refine blockM rfl ?_
            have hw : IntKind.i64.wrap ((k : Int) + 1) = (k : Int) + 1 := by rw [wrap_i64] <;> omega
            skip
            refine ⟨_, h11, hs, ?_, ?_⟩
            · exact ⟨by omega, by (try simp only [List.length_append, List.length_singleton, List.length_set]); omega, by first | exact hi.2.2 | exact til_set (P := fun t => 0 ≤ t ∧ t ≤ 100000) hi.2.2 hvx | exact til_app (P := fun t => 0 ≤ t ∧ t ≤ 100000) hi.2.2 hvx⟩
            · simp [Weak, TW, hw, encSer_eq, encIsss_eq, encIss_eq, encSpn_eq, encSpns_eq] <;> (first | omega | exact ⟨ho, by omega⟩)
    · skip
      obtain ⟨j, hkj⟩ : ∃ j, k = j + 1 := ⟨k - 1, by omega⟩
      obtain ⟨y, hy1, hy2, _⟩ := at_indexG (l := s.iss) (k := j) (by omega)
      have hjw : IntKind.i64.wrap (j : Int) = (j : Int) := by rw [wrap_i64] <;> omega
      have hj0 : IntKind.i64.wrap ((k : Int) - 1) = (j : Int) := by rw [wrap_i64] <;> omega
      have hj1 : j < s.iss.length := by omega
      have hk1 : 0 < k := hk0
      have hgy : s.iss.getD (k - 1) zIss = y := by rw [List.getD_eq_getElem?_getD, show k - 1 = j by omega, hy1]; rfl
      -- region 5
      refine AWp.rseqQ E_ok mixed [0, 1, 2, 3, 4, 5, 6, 8, 9, 10, 11, 35, 51] (by kernel_rfl) fun K hK => ?_
      simp [encSer_eq, encIsss_eq, encIss_eq, encSpn_eq, encSpns_eq, h11, hx, hxx, hj0, hjw, hy1, hy2, hj1, hkj, hk1]
      try simp (disch := omega) only [wrap_i64]
      repeat refine ⟨by first | omega | assumption | (simp only [maxLen]; omega) | (intros; omega) | decide, ?_⟩
      refine meet.of (serial_held s x.vol (by omega)) ?_
      simp [encSer_eq, encIsss_eq, encIss_eq, encSpn_eq, encSpns_eq, h11, hx, hxx, hj0, hjw, hy1, hy2, hj1, hkj, hk1]
      try simp (disch := omega) only [wrap_i64]
      repeat refine ⟨by first | omega | assumption | (simp only [maxLen]; omega) | (intros; omega) | decide, ?_⟩
      refine hK _ ?_
      clear hK K
      refine AWp.cond rfl (fun h35 => ?_) (fun h35 => ?_)
      · try simp at h35
        have hc : (0 < k ∧ (s.iss.getD (k - 1) zIss).vol = x.vol) ∨ heldB s.iss s.pat.per x.vol = false := by first | (right; simpa using h35) | (rw [hgy]; rcases h35 with h | h <;> first | exact .inl ⟨hk0, h⟩ | exact .inr h | exact .inl ⟨hk0, by simpa using h⟩ | exact .inr (by simpa using h))
        rw [if_pos hc] at hs
        refine AWp.exit ?_
        repeat first | refine thenN ?_ | refine thenX ?_ | refine thenR ?_ | refine blockN ?_ | refine blockR ?_ | refine blockX ?_ | refine blockM rfl ?_
        -- region 10
        refine AWp.rend E_ok [0, 1, 2, 3, 4, 5, 6, 8, 9, 10, 11, 35, 51] fun K hK => ?_
        simp [encSer_eq, encIsss_eq, encIss_eq, encSpn_eq, encSpns_eq, h11, hx, hxx, hj0, hjw, hy1, hy2, hj1, hkj, hk1]
        try simp (disch := omega) only [wrap_i64]
        repeat refine ⟨by first | omega | assumption | (simp only [maxLen]; omega) | (intros; omega) | decide, ?_⟩
        refine hK _ ?_
        clear hK K
        repeat first | refine thenN ?_ | refine thenX ?_ | refine thenR ?_ | refine blockN ?_ | refine blockR ?_ | refine blockX ?_ | refine blockM rfl ?_
        have hw : IntKind.i64.wrap ((k : Int) + 1) = (k : Int) + 1 := by rw [wrap_i64] <;> omega
        skip
        refine ⟨_, h11, hs, ?_, ?_⟩
        · exact ⟨by omega, by (try simp only [List.length_append, List.length_singleton, List.length_set]); omega, by first | exact hi.2.2 | exact til_set (P := fun t => 0 ≤ t ∧ t ≤ 100000) hi.2.2 hvx | exact til_app (P := fun t => 0 ≤ t ∧ t ≤ 100000) hi.2.2 hvx⟩
        · simp [Weak, TW, hw, encSer_eq, encIsss_eq, encIss_eq, encSpn_eq, encSpns_eq] <;> (first | omega | exact ⟨ho, by omega⟩)
      · try simp at h35
        have hc : ¬ ((0 < k ∧ (s.iss.getD (k - 1) zIss).vol = x.vol) ∨ heldB s.iss s.pat.per x.vol = false) := by first | (rintro (⟨h, _⟩ | h) <;> first | omega | (rw [h] at h35; simp at h35)) | (rw [hgy]; rintro (⟨_, h⟩ | h) <;> simp_all)
        rw [if_neg hc] at hs
        refine AWp.skip ?_
        repeat first | refine thenN ?_ | refine thenX ?_ | refine thenR ?_ | refine blockN ?_ | refine blockR ?_ | refine blockX ?_ | refine blockM rfl ?_
        -- region 6
        refine AWp.rseq E_ok [0, 1, 2, 3, 4, 5, 6, 8, 9, 10, 11, 35, 51] fun K hK => ?_
        simp [encSer_eq, encIsss_eq, encIss_eq, encSpn_eq, encSpns_eq, h11, hx, hxx, hj0, hjw, hy1, hy2, hj1, hkj, hk1]
        try simp (disch := omega) only [wrap_i64]
        repeat refine ⟨by first | omega | assumption | (simp only [maxLen]; omega) | (intros; omega) | decide, ?_⟩
        refine hK _ ?_
        clear hK K
        rcases Decidable.em (o = []) with ho | ho
        · skip
          have hw9 : IntKind.i64.wrap (-1) = -1 := by rw [wrap_i64] <;> omega
          have hz9 : (-1 : Int).toNat = 0 := rfl
          have hadd : ∀ v, addS o v = o ++ [⟨v, v⟩] := fun v => by rw [ho]; rfl
          -- region 7
          refine AWp.rseqQ E_ok mixed [0, 1, 2, 3, 4, 5, 6, 8, 9, 10, 11, 35, 51] (by kernel_rfl) fun K hK => ?_
          simp [encSer_eq, encIsss_eq, encIss_eq, encSpn_eq, encSpns_eq, h11, hx, hxx, hj0, hjw, hy1, hy2, hj1, hkj, hk1, ho, hw9, hz9]
          try simp (disch := omega) only [wrap_i64]
          repeat refine ⟨by first | omega | assumption | (simp only [maxLen]; omega) | (intros; omega) | decide, ?_⟩
          refine hK _ ?_
          clear hK K
          refine AWp.cond rfl (fun h51 => ?_) (fun h51 => ?_)
          · exact absurd h51 (by simp)
          · try simp at h51
            first | rw [hadd x.vol, if_neg (by first | exact h51 | simpa using h51)] at hs | rw [hadd x.vol] at hs
            -- region 9
            refine AWp.rend E_ok [0, 1, 2, 3, 4, 5, 6, 8, 9, 10, 11, 35, 51] fun K hK => ?_
            simp [encSer_eq, encIsss_eq, encIss_eq, encSpn_eq, encSpns_eq, h11, hx, hxx, hj0, hjw, hy1, hy2, hj1, hkj, hk1, ho, hw9, hz9]
            try simp (disch := omega) only [wrap_i64]
            repeat refine ⟨by first | omega | assumption | (simp only [maxLen]; omega) | (intros; omega) | decide, ?_⟩
            refine hK _ ?_
            clear hK K
            repeat first | refine thenN ?_ | refine thenX ?_ | refine thenR ?_ | refine blockN ?_ | refine blockR ?_ | refine blockX ?_ | refine blockM rfl ?_
            -- region 10
            refine AWp.rend E_ok [0, 1, 2, 3, 4, 5, 6, 8, 9, 10, 11, 35, 51] fun K hK => ?_
            simp [encSer_eq, encIsss_eq, encIss_eq, encSpn_eq, encSpns_eq, h11, hx, hxx, hj0, hjw, hy1, hy2, hj1, hkj, hk1, ho, hw9, hz9]
            try simp (disch := omega) only [wrap_i64]
            repeat refine ⟨by first | omega | assumption | (simp only [maxLen]; omega) | (intros; omega) | decide, ?_⟩
            refine hK _ ?_
            clear hK K
            repeat first | refine thenN ?_ | refine thenX ?_ | refine thenR ?_ | refine blockN ?_ | refine blockR ?_ | refine blockX ?_ | refine blockM rfl ?_
            have hw : IntKind.i64.wrap ((k : Int) + 1) = (k : Int) + 1 := by rw [wrap_i64] <;> omega
            skip
            refine ⟨_, h11, hs, ?_, ?_⟩
            · exact ⟨by omega, by (try simp only [List.length_append, List.length_singleton, List.length_set]); omega, by first | exact hi.2.2 | exact til_set (P := fun t => 0 ≤ t ∧ t ≤ 100000) hi.2.2 hvx | exact til_app (P := fun t => 0 ≤ t ∧ t ≤ 100000) hi.2.2 hvx⟩
            · simp [Weak, TW, hw, encSer_eq, encIsss_eq, encIss_eq, encSpn_eq, encSpns_eq] <;> (first | omega | exact ⟨ho, by omega⟩)
        · skip
          obtain ⟨n, z, hn, hon, hz1, hz2, hzo, _, hadd⟩ := last_at ho
          have hzt := hi.2.2 z hzo
          have hwn : IntKind.i64.wrap ((n : Int) + 1 - 1) = (n : Int) := by rw [wrap_i64] <;> omega
          have hwn2 : IntKind.i64.wrap (n : Int) = (n : Int) := by rw [wrap_i64] <;> omega
          have hwt : IntKind.i64.wrap (z.til + 1) = z.til + 1 := by rw [wrap_i64] <;> omega
          -- region 7
          refine AWp.rseqQ E_ok mixed [0, 1, 2, 3, 4, 5, 6, 8, 9, 10, 11, 35, 51] (by kernel_rfl) fun K hK => ?_
          simp [encSer_eq, encIsss_eq, encIss_eq, encSpn_eq, encSpns_eq, h11, hx, hxx, hj0, hjw, hy1, hy2, hj1, hkj, hk1, hon, hn, hz1, hz2, hwn, hwn2, hwt]
          try simp (disch := omega) only [wrap_i64]
          repeat refine ⟨by first | omega | assumption | (simp only [maxLen]; omega) | (intros; omega) | decide, ?_⟩
          refine hK _ ?_
          clear hK K
          refine AWp.cond rfl (fun h51 => ?_) (fun h51 => ?_)
          · try simp at h51
            rw [hadd x.vol, if_pos (by first | exact h51 | simpa using h51)] at hs
            -- region 8
            refine AWp.rend E_ok [0, 1, 2, 3, 4, 5, 6, 8, 9, 10, 11, 35, 51] fun K hK => ?_
            simp [encSer_eq, encIsss_eq, encIss_eq, encSpn_eq, encSpns_eq, h11, hx, hxx, hj0, hjw, hy1, hy2, hj1, hkj, hk1, hon, hn, hz1, hz2, hwn, hwn2, hwt]
            try simp (disch := omega) only [wrap_i64]
            repeat refine ⟨by first | omega | assumption | (simp only [maxLen]; omega) | (intros; omega) | decide, ?_⟩
            refine hK _ ?_
            clear hK K
            repeat first | refine thenN ?_ | refine thenX ?_ | refine thenR ?_ | refine blockN ?_ | refine blockR ?_ | refine blockX ?_ | refine blockM rfl ?_
            -- region 10
            refine AWp.rend E_ok [0, 1, 2, 3, 4, 5, 6, 8, 9, 10, 11, 35, 51] fun K hK => ?_
            simp [encSer_eq, encIsss_eq, encIss_eq, encSpn_eq, encSpns_eq, h11, hx, hxx, hj0, hjw, hy1, hy2, hj1, hkj, hk1, hon, hn, hz1, hz2, hwn, hwn2, hwt]
            try simp (disch := omega) only [wrap_i64]
            repeat refine ⟨by first | omega | assumption | (simp only [maxLen]; omega) | (intros; omega) | decide, ?_⟩
            refine hK _ ?_
            clear hK K
            repeat first | refine thenN ?_ | refine thenX ?_ | refine thenR ?_ | refine blockN ?_ | refine blockR ?_ | refine blockX ?_ | refine blockM rfl ?_
            have hw : IntKind.i64.wrap ((k : Int) + 1) = (k : Int) + 1 := by rw [wrap_i64] <;> omega
            skip
            refine ⟨_, h11, hs, ?_, ?_⟩
            · exact ⟨by omega, by (try simp only [List.length_append, List.length_singleton, List.length_set]); omega, by first | exact hi.2.2 | exact til_set (P := fun t => 0 ≤ t ∧ t ≤ 100000) hi.2.2 hvx | exact til_app (P := fun t => 0 ≤ t ∧ t ≤ 100000) hi.2.2 hvx⟩
            · simp [Weak, TW, hw, encSer_eq, encIsss_eq, encIss_eq, encSpn_eq, encSpns_eq] <;> (first | omega | exact ⟨ho, by omega⟩)
          · try simp at h51
            first | rw [hadd x.vol, if_neg (by first | exact h51 | simpa using h51)] at hs | rw [hadd x.vol] at hs
            -- region 9
            refine AWp.rend E_ok [0, 1, 2, 3, 4, 5, 6, 8, 9, 10, 11, 35, 51] fun K hK => ?_
            simp [encSer_eq, encIsss_eq, encIss_eq, encSpn_eq, encSpns_eq, h11, hx, hxx, hj0, hjw, hy1, hy2, hj1, hkj, hk1, hon, hn, hz1, hz2, hwn, hwn2, hwt]
            try simp (disch := omega) only [wrap_i64]
            repeat refine ⟨by first | omega | assumption | (simp only [maxLen]; omega) | (intros; omega) | decide, ?_⟩
            refine hK _ ?_
            clear hK K
            repeat first | refine thenN ?_ | refine thenX ?_ | refine thenR ?_ | refine blockN ?_ | refine blockR ?_ | refine blockX ?_ | refine blockM rfl ?_
            -- region 10
            refine AWp.rend E_ok [0, 1, 2, 3, 4, 5, 6, 8, 9, 10, 11, 35, 51] fun K hK => ?_
            simp [encSer_eq, encIsss_eq, encIss_eq, encSpn_eq, encSpns_eq, h11, hx, hxx, hj0, hjw, hy1, hy2, hj1, hkj, hk1, hon, hn, hz1, hz2, hwn, hwn2, hwt]
            try simp (disch := omega) only [wrap_i64]
            repeat refine ⟨by first | omega | assumption | (simp only [maxLen]; omega) | (intros; omega) | decide, ?_⟩
            refine hK _ ?_
            clear hK K
            repeat first | refine thenN ?_ | refine thenX ?_ | refine thenR ?_ | refine blockN ?_ | refine blockR ?_ | refine blockX ?_ | refine blockM rfl ?_
            have hw : IntKind.i64.wrap ((k : Int) + 1) = (k : Int) + 1 := by rw [wrap_i64] <;> omega
            skip
            refine ⟨_, h11, hs, ?_, ?_⟩
            · exact ⟨by omega, by (try simp only [List.length_append, List.length_singleton, List.length_set]); omega, by first | exact hi.2.2 | exact til_set (P := fun t => 0 ≤ t ∧ t ≤ 100000) hi.2.2 hvx | exact til_app (P := fun t => 0 ≤ t ∧ t ≤ 100000) hi.2.2 hvx⟩
            · simp [Weak, TW, hw, encSer_eq, encIsss_eq, encIss_eq, encSpn_eq, encSpns_eq] <;> (first | omega | exact ⟨ho, by omega⟩)
  · try simp at h11
    obtain rfl : k = s.iss.length := by omega
    simp [hldF] at hs
    refine AWp.exit ?_
    repeat first | refine thenN ?_ | refine thenX ?_ | refine thenR ?_ | refine blockN ?_ | refine blockR ?_ | refine blockX ?_ | refine blockM rfl ?_
    -- region 11
    refine AWp.rseq E_ok [0, 1, 2, 3, 4, 5, 6, 8, 9, 10, 11, 35, 51] fun K hK => ?_
    simp [encSer_eq, encIsss_eq, encIss_eq, encSpn_eq, encSpns_eq, h11]
    try simp (disch := omega) only [wrap_i64]
    repeat refine ⟨by first | omega | assumption | (simp only [maxLen]; omega) | (intros; omega) | decide, ?_⟩
    refine hK _ ?_
    clear hK K
    refine AWp.ret ?_
    repeat first | refine thenN ?_ | refine thenX ?_ | refine thenR ?_ | refine blockN ?_ | refine blockR ?_ | refine blockX ?_ | refine blockM rfl ?_
    rw [show hldF s.iss s.pat.per (0, []) s.iss = heldR s from rfl] at hs; simp [RetOk, RV, ← hs, encSpns_eq, encSpn_eq]
end Go.Proofs.Ytceapemkefaicaa

set_option maxRecDepth 100000
set_option linter.unusedSimpArgs false
set_option linter.unusedVariables false
namespace Go.Proofs.Ytceapemkefaicaa
open Go Ab Pl
set_option maxHeartbeats 8000000 in
theorem serial_Right (s : Ser) (hl : s.iss.length ≤ 1000) : ACalls E.P 15 [encSer s] (.d (.int .i64 (serR s))) := by
  refine ACalls.intro E_ok Try.func15 rfl rfl Try.ntmps15 Try.results15 (Nat.le_of_ble_eq_true rfl) fun hok base S0 w0 => ?_
  have hm := Ok_i64 (Ok_agg (hok (encSer s) (by simp)) (.int .i64 s.rcd) (by simp [encSer_eq]))
  have hpr := patR_rng s.pat
  -- region 0
  refine AWp.rseq E_ok [0, 1, 2, 3, 4, 5, 6, 7, 9, 10, 14, 19, 24, 28, 47, 49, 50, 51, 52, 70, 88, 92, 93, 94, 95, 126] fun K hK => ?_
  simp [encSer_eq, encIsss_eq, encIss_eq, patR_1, patR_2, hasI_eq]
  try simp (disch := omega) only [wrap_i64]
  repeat refine ⟨by first | omega | assumption | (simp only [maxLen]; omega) | (intros; omega) | decide, ?_⟩
  refine hK _ ?_
  clear hK K
  refine AWp.seq ?_
  -- region 1
  refine AWp.rseq E_ok [0, 1, 2, 3, 4, 5, 6, 7, 9, 10, 14, 19, 24, 28, 47, 49, 50, 51, 52, 70, 88, 92, 93, 94, 95, 126] fun K hK => ?_
  simp [encSer_eq, encIsss_eq, encIss_eq, patR_1, patR_2, hasI_eq]
  try simp (disch := omega) only [wrap_i64]
  repeat refine ⟨by first | omega | assumption | (simp only [maxLen]; omega) | (intros; omega) | decide, ?_⟩
  refine meet.of (serial_within s.rcd 1 9999) ?_
  simp [encSer_eq, encIsss_eq, encIss_eq, patR_1, patR_2, hasI_eq]
  try simp (disch := omega) only [wrap_i64]
  repeat refine ⟨by first | omega | assumption | (simp only [maxLen]; omega) | (intros; omega) | decide, ?_⟩
  refine hK _ ?_
  clear hK K
  refine AWp.cond rfl (fun h14 => ?_) (fun h14 => ?_)
  · try simp at h14
    have hb : serR s = 2 := if_pos (by omega)
    -- region 2
    refine AWp.rseq E_ok [0, 1, 2, 3, 4, 5, 6, 7, 9, 10, 14, 19, 24, 28, 47, 49, 50, 51, 52, 70, 88, 92, 93, 94, 95, 126] fun K hK => ?_
    simp [encSer_eq, encIsss_eq, encIss_eq, patR_1, patR_2, hasI_eq]
    try simp (disch := omega) only [wrap_i64]
    repeat refine ⟨by first | omega | assumption | (simp only [maxLen]; omega) | (intros; omega) | decide, ?_⟩
    refine hK _ ?_
    clear hK K
    refine AWp.ret ?_
    repeat first | refine thenN ?_ | refine thenX ?_ | refine thenR ?_ | refine blockN ?_ | refine blockR ?_ | refine blockX ?_ | refine blockM rfl ?_
    simp [RetOk, RV, hb]
  · try simp at h14
    refine AWp.skip ?_
    repeat first | refine thenN ?_ | refine thenX ?_ | refine thenR ?_ | refine blockN ?_ | refine blockR ?_ | refine blockX ?_ | refine blockM rfl ?_
    refine AWp.seq ?_
    -- region 3
    refine AWp.rseq E_ok [0, 1, 2, 3, 4, 5, 6, 7, 9, 10, 14, 19, 24, 28, 47, 49, 50, 51, 52, 70, 88, 92, 93, 94, 95, 126] fun K hK => ?_
    simp [encSer_eq, encIsss_eq, encIss_eq, patR_1, patR_2, hasI_eq]
    try simp (disch := omega) only [wrap_i64]
    repeat refine ⟨by first | omega | assumption | (simp only [maxLen]; omega) | (intros; omega) | decide, ?_⟩
    refine meet.of (pattern_Right s.pat) ?_
    simp [encSer_eq, encIsss_eq, encIss_eq, patR_1, patR_2, hasI_eq]
    try simp (disch := omega) only [wrap_i64]
    repeat refine ⟨by first | omega | assumption | (simp only [maxLen]; omega) | (intros; omega) | decide, ?_⟩
    refine hK _ ?_
    clear hK K
    -- region 4
    refine AWp.rseq E_ok [0, 1, 2, 3, 4, 5, 6, 7, 9, 10, 14, 19, 24, 28, 47, 49, 50, 51, 52, 70, 88, 92, 93, 94, 95, 126] fun K hK => ?_
    simp [encSer_eq, encIsss_eq, encIss_eq, patR_1, patR_2, hasI_eq]
    try simp (disch := omega) only [wrap_i64]
    repeat refine ⟨by first | omega | assumption | (simp only [maxLen]; omega) | (intros; omega) | decide, ?_⟩
    refine hK _ ?_
    clear hK K
    refine AWp.cond rfl (fun h19 => ?_) (fun h19 => ?_)
    · try simp at h19
      have hb : serR s = patR s.pat := by unfold serR; rw [if_neg (by omega), if_pos h19]
      -- region 5
      refine AWp.rseq E_ok [0, 1, 2, 3, 4, 5, 6, 7, 9, 10, 14, 19, 24, 28, 47, 49, 50, 51, 52, 70, 88, 92, 93, 94, 95, 126] fun K hK => ?_
      simp [encSer_eq, encIsss_eq, encIss_eq, patR_1, patR_2, hasI_eq]
      try simp (disch := omega) only [wrap_i64]
      repeat refine ⟨by first | omega | assumption | (simp only [maxLen]; omega) | (intros; omega) | decide, ?_⟩
      refine hK _ ?_
      clear hK K
      refine AWp.ret ?_
      repeat first | refine thenN ?_ | refine thenX ?_ | refine thenR ?_ | refine blockN ?_ | refine blockR ?_ | refine blockX ?_ | refine blockM rfl ?_
      simp [RetOk, RV, hb]
    · try simp at h19
      have hp : PatOk s.pat := patR_ok (by omega)
      refine AWp.skip ?_
      repeat first | refine thenN ?_ | refine thenX ?_ | refine thenR ?_ | refine blockN ?_ | refine blockR ?_ | refine blockX ?_ | refine blockM rfl ?_
      refine AWp.seq ?_
      -- region 6
      refine AWp.rseq E_ok [0, 1, 2, 3, 4, 5, 6, 7, 9, 10, 14, 19, 24, 28, 47, 49, 50, 51, 52, 70, 88, 92, 93, 94, 95, 126] fun K hK => ?_
      simp [encSer_eq, encIsss_eq, encIss_eq, patR_1, patR_2, hasI_eq]
      try simp (disch := omega) only [wrap_i64]
      repeat refine ⟨by first | omega | assumption | (simp only [maxLen]; omega) | (intros; omega) | decide, ?_⟩
      refine hK _ ?_
      clear hK K
      refine AWp.cond rfl (fun h24 => ?_) (fun h24 => ?_)
      · try simp at h24
        have hb : serR s = 13 := by unfold serR; rw [if_neg (by omega), if_neg (by omega), if_pos (by omega)]
        -- region 7
        refine AWp.rseq E_ok [0, 1, 2, 3, 4, 5, 6, 7, 9, 10, 14, 19, 24, 28, 47, 49, 50, 51, 52, 70, 88, 92, 93, 94, 95, 126] fun K hK => ?_
        simp [encSer_eq, encIsss_eq, encIss_eq, patR_1, patR_2, hasI_eq]
        try simp (disch := omega) only [wrap_i64]
        repeat refine ⟨by first | omega | assumption | (simp only [maxLen]; omega) | (intros; omega) | decide, ?_⟩
        refine hK _ ?_
        clear hK K
        refine AWp.ret ?_
        repeat first | refine thenN ?_ | refine thenX ?_ | refine thenR ?_ | refine blockN ?_ | refine blockR ?_ | refine blockX ?_ | refine blockM rfl ?_
        simp [RetOk, RV, hb]
      · try simp at h24
        refine AWp.skip ?_
        repeat first | refine thenN ?_ | refine thenX ?_ | refine thenR ?_ | refine blockN ?_ | refine blockR ?_ | refine blockX ?_ | refine blockM rfl ?_
        refine AWp.seq ?_
        -- region 8
        refine AWp.rseq E_ok [0, 1, 2, 3, 4, 5, 6, 7, 9, 10, 14, 19, 24, 28, 47, 49, 50, 51, 52, 70, 88, 92, 93, 94, 95, 126] fun K hK => ?_
        simp [encSer_eq, encIsss_eq, encIss_eq, patR_1, patR_2, hasI_eq]
        try simp (disch := omega) only [wrap_i64]
        repeat refine ⟨by first | omega | assumption | (simp only [maxLen]; omega) | (intros; omega) | decide, ?_⟩
        refine meet.of (serial_within s.next 0 5000) ?_
        simp [encSer_eq, encIsss_eq, encIss_eq, patR_1, patR_2, hasI_eq]
        try simp (disch := omega) only [wrap_i64]
        repeat refine ⟨by first | omega | assumption | (simp only [maxLen]; omega) | (intros; omega) | decide, ?_⟩
        refine hK _ ?_
        clear hK K
        refine AWp.cond rfl (fun h28 => ?_) (fun h28 => ?_)
        · try simp at h28
          have hb : serR s = 2 := by unfold serR; rw [if_neg (by omega), if_neg (by omega), if_neg (by omega), if_pos (by omega)]
          -- region 9
          refine AWp.rseq E_ok [0, 1, 2, 3, 4, 5, 6, 7, 9, 10, 14, 19, 24, 28, 47, 49, 50, 51, 52, 70, 88, 92, 93, 94, 95, 126] fun K hK => ?_
          simp [encSer_eq, encIsss_eq, encIss_eq, patR_1, patR_2, hasI_eq]
          try simp (disch := omega) only [wrap_i64]
          repeat refine ⟨by first | omega | assumption | (simp only [maxLen]; omega) | (intros; omega) | decide, ?_⟩
          refine hK _ ?_
          clear hK K
          refine AWp.ret ?_
          repeat first | refine thenN ?_ | refine thenX ?_ | refine thenR ?_ | refine blockN ?_ | refine blockR ?_ | refine blockX ?_ | refine blockM rfl ?_
          simp [RetOk, RV, hb]
        · try simp at h28
          have hls := list_0 s.pat s.iss.length
          have hrest : serR s = if ¬ (s.iss.length : Int) = s.next ∨ ¬ (((allI s.pat).take s.iss.length).length : Int) = s.next then 1 else if okF (allI s.pat) s.iss 0 s.iss = true then 0 else 1 := by unfold serR; rw [if_neg (by omega), if_neg (by omega), if_neg (by omega), if_neg (by omega)]
          obtain ⟨L, hL⟩ : ∃ L, (allI s.pat).take s.iss.length = L := ⟨_, rfl⟩
          rw [hL] at hls hrest
          have hLn : L.length ≤ 5000 := by have := allI_len s.pat; rw [← hL, List.length_take]; omega
          refine AWp.skip ?_
          repeat first | refine thenN ?_ | refine thenX ?_ | refine thenR ?_ | refine blockN ?_ | refine blockR ?_ | refine blockX ?_ | refine blockM rfl ?_
          -- region 10
          refine AWp.rseq E_ok [0, 1, 2, 3, 4, 5, 6, 7, 9, 10, 14, 19, 24, 28, 47, 49, 50, 51, 52, 70, 88, 92, 93, 94, 95, 126] fun K hK => ?_
          simp [encSer_eq, encIsss_eq, encIss_eq, patR_1, patR_2, hasI_eq, hls]
          try simp (disch := omega) only [wrap_i64]
          repeat refine ⟨by first | omega | assumption | (simp only [maxLen]; omega) | (intros; omega) | decide, ?_⟩
          refine meet.of (pattern_List s.pat 0 (s.iss.length : Int) hp) ?_
          simp [encSer_eq, encIsss_eq, encIss_eq, patR_1, patR_2, hasI_eq, hls]
          try simp (disch := omega) only [wrap_i64]
          repeat refine ⟨by first | omega | assumption | (simp only [maxLen]; omega) | (intros; omega) | decide, ?_⟩
          refine hK _ ?_
          clear hK K
          refine AWp.seq ?_
          -- region 11
          refine AWp.rseq E_ok [0, 1, 2, 3, 4, 5, 6, 7, 9, 10, 14, 19, 24, 28, 47, 49, 50, 51, 52, 70, 88, 92, 93, 94, 95, 126] fun K hK => ?_
          simp [encSer_eq, encIsss_eq, encIss_eq, patR_1, patR_2, hasI_eq, hls]
          try simp (disch := omega) only [wrap_i64]
          repeat refine ⟨by first | omega | assumption | (simp only [maxLen]; omega) | (intros; omega) | decide, ?_⟩
          refine hK _ ?_
          clear hK K
          refine AWp.cond rfl (fun h47 => ?_) (fun h47 => ?_)
          · try simp at h47
            have hb : serR s = 1 := by rw [hrest, if_pos (by omega)]
            -- region 12
            refine AWp.rseq E_ok [0, 1, 2, 3, 4, 5, 6, 7, 9, 10, 14, 19, 24, 28, 47, 49, 50, 51, 52, 70, 88, 92, 93, 94, 95, 126] fun K hK => ?_
            simp [encSer_eq, encIsss_eq, encIss_eq, patR_1, patR_2, hasI_eq, hls]
            try simp (disch := omega) only [wrap_i64]
            repeat refine ⟨by first | omega | assumption | (simp only [maxLen]; omega) | (intros; omega) | decide, ?_⟩
            refine hK _ ?_
            clear hK K
            refine AWp.ret ?_
            repeat first | refine thenN ?_ | refine thenX ?_ | refine thenR ?_ | refine blockN ?_ | refine blockR ?_ | refine blockX ?_ | refine blockM rfl ?_
            simp [RetOk, RV, hb]
          · try simp at h47
            rw [if_neg (by omega)] at hrest
            refine AWp.skip ?_
            repeat first | refine thenN ?_ | refine thenX ?_ | refine thenR ?_ | refine blockN ?_ | refine blockR ?_ | refine blockX ?_ | refine blockM rfl ?_
            refine AWp.seq ?_
            -- region 13
            refine AWp.rseq E_ok [0, 1, 2, 3, 4, 5, 6, 7, 9, 10, 14, 19, 24, 28, 47, 49, 50, 51, 52, 70, 88, 92, 93, 94, 95, 126] fun K hK => ?_
            simp [encSer_eq, encIsss_eq, encIss_eq, patR_1, patR_2, hasI_eq, hls]
            try simp (disch := omega) only [wrap_i64]
            repeat refine ⟨by first | omega | assumption | (simp only [maxLen]; omega) | (intros; omega) | decide, ?_⟩
            refine hK _ ?_
            clear hK K
            refine AWp.block ?_
            refine AWp.range (l := s.iss) (F := okF (allI s.pat) s.iss) (tot := okF (allI s.pat) s.iss 0 s.iss) (fun k y => match y with | i => i = k) (fun k y => match y with | i => [(0, T.val (D.agg [D.int IntKind.i64 s.rcd, D.int IntKind.i64 s.pat.start, D.int IntKind.i64 s.pat.every, D.int IntKind.i64 s.pat.per, D.int IntKind.i64 s.pat.first, encInts s.pat.skip, encInts s.pat.dbl, D.int IntKind.i64 s.next, (D.agg [D.int IntKind.i64 zIss.vol, D.int IntKind.i64 zIss.num, D.int IntKind.i64 zIss.last, D.int IntKind.i64 zIss.day, D.int IntKind.i64 zIss.st, D.int IntKind.i64 zIss.item]).slice (List.map encIss s.iss)])), (1, T.box [C.d (D.int IntKind.i64 s.rcd), C.d (D.int IntKind.i64 s.pat.start), C.d (D.int IntKind.i64 s.pat.every), C.d (D.int IntKind.i64 s.pat.per), C.d (D.int IntKind.i64 s.pat.first), C.d (encInts s.pat.skip), C.d (encInts s.pat.dbl), C.d (D.int IntKind.i64 s.next), C.d ((D.agg [D.int IntKind.i64 zIss.vol, D.int IntKind.i64 zIss.num, D.int IntKind.i64 zIss.last, D.int IntKind.i64 zIss.day, D.int IntKind.i64 zIss.st, D.int IntKind.i64 zIss.item]).slice (List.map encIss s.iss))]), (4, T.val ((D.agg [D.int IntKind.i64 zIss.vol, D.int IntKind.i64 zIss.num, D.int IntKind.i64 zIss.last, D.int IntKind.i64 zIss.day, D.int IntKind.i64 zIss.st, D.int IntKind.i64 zIss.item]).slice (List.map encIss L))), (49, T.val ((D.agg [D.int IntKind.i64 zIss.vol, D.int IntKind.i64 zIss.num, D.int IntKind.i64 zIss.last, D.int IntKind.i64 zIss.day, D.int IntKind.i64 zIss.st, D.int IntKind.i64 zIss.item]).slice (List.map encIss s.iss))), (50, T.val (D.int IntKind.i64 ↑s.iss.length)), (51, T.val (.int .i64 k))]) (0) ?_ rfl ?_ ?_
            · simp [Weak, TW, encSer_eq, encIsss_eq, encIss_eq, patR_1, patR_2, hasI_eq]
            · first | exact trivial | (simp; omega) | simp
            rintro k i hk hs hi
            try simp only at hi
            -- region 14
            refine AWp.rseq E_ok [0, 1, 2, 3, 4, 5, 6, 7, 9, 10, 14, 19, 24, 28, 47, 49, 50, 51, 52, 70, 88, 92, 93, 94, 95, 126] fun K hK => ?_
            simp [encSer_eq, encIsss_eq, encIss_eq, patR_1, patR_2, hasI_eq, hls]
            try simp (disch := omega) only [wrap_i64]
            repeat refine ⟨by first | omega | assumption | (simp only [maxLen]; omega) | (intros; omega) | decide, ?_⟩
            refine hK _ ?_
            clear hK K
            refine AWp.seq ?_
            refine AWp.cond rfl (fun h52 => ?_) (fun h52 => ?_)
            · try simp at h52
              obtain ⟨x, hx, hxx, hd⟩ := at_indexG (l := s.iss) h52
              rw [hd] at hs
              obtain ⟨w, hw1, hw2, _⟩ := at_indexG (l := L) (k := k) (by omega)
              have hwa : (allI s.pat)[k]? = some w := by have := hw1; rw [← hL, List.getElem?_take, if_pos (by omega)] at this; exact this
              have hwr : IssRng w := allI_rng hp (List.mem_of_getElem? hwa)
              unfold IssRng at hwr
              have hw0 : w.item = 0 := hwr.2.2.2.2.2
              have hws : w.st = 1 := hwr.2.2.2.2.1
              have hkL : k < L.length := by omega
              rw [hi] at hs
              refine AWp.skip ?_
              repeat first | refine thenN ?_ | refine thenX ?_ | refine thenR ?_ | refine blockN ?_ | refine blockR ?_ | refine blockX ?_ | refine blockM rfl ?_
              refine AWp.seq ?_
              refine AWp.block ?_
              -- region 15
              refine AWp.rseq E_ok [0, 1, 2, 3, 4, 5, 6, 7, 9, 10, 14, 19, 24, 28, 47, 49, 50, 51, 52, 70, 88, 92, 93, 94, 95, 126] fun K hK => ?_
              simp [encSer_eq, encIsss_eq, encIss_eq, patR_1, patR_2, hasI_eq, hls, h52, hw1, hw2, hw0, hws, hkL, hx, hxx]
              try simp (disch := omega) only [wrap_i64]
              repeat refine ⟨by first | omega | assumption | (simp only [maxLen]; omega) | (intros; omega) | decide, ?_⟩
              refine hK _ ?_
              clear hK K
              -- region 16
              refine AWp.rseq E_ok [0, 1, 2, 3, 4, 5, 6, 7, 9, 10, 14, 19, 24, 28, 47, 49, 50, 51, 52, 70, 88, 92, 93, 94, 95, 126] fun K hK => ?_
              simp [encSer_eq, encIsss_eq, encIss_eq, patR_1, patR_2, hasI_eq, hls, h52, hw1, hw2, hw0, hws, hkL, hx, hxx]
              try simp (disch := omega) only [wrap_i64]
              repeat refine ⟨by first | omega | assumption | (simp only [maxLen]; omega) | (intros; omega) | decide, ?_⟩
              refine hK _ ?_
              clear hK K
              -- region 17
              refine AWp.rseq E_ok [0, 1, 2, 3, 4, 5, 6, 7, 9, 10, 14, 19, 24, 28, 47, 49, 50, 51, 52, 70, 88, 92, 93, 94, 95, 126] fun K hK => ?_
              simp [encSer_eq, encIsss_eq, encIss_eq, patR_1, patR_2, hasI_eq, hls, h52, hw1, hw2, hw0, hws, hkL, hx, hxx]
              try simp (disch := omega) only [wrap_i64]
              repeat refine ⟨by first | omega | assumption | (simp only [maxLen]; omega) | (intros; omega) | decide, ?_⟩
              refine hK _ ?_
              clear hK K
              refine AWp.seq ?_
              -- region 18
              refine AWp.rseqQ E_ok mixed [0, 1, 2, 3, 4, 5, 6, 7, 9, 10, 14, 19, 24, 28, 47, 49, 50, 51, 52, 70, 88, 92, 93, 94, 95, 126] (by kernel_rfl) fun K hK => ?_
              simp [encSer_eq, encIsss_eq, encIss_eq, patR_1, patR_2, hasI_eq, hls, h52, hw1, hw2, hw0, hws, hkL, hx, hxx]
              try simp (disch := omega) only [wrap_i64]
              repeat refine ⟨by first | omega | assumption | (simp only [maxLen]; omega) | (intros; omega) | decide, ?_⟩
              refine meet.of (serial_within x.st 1 5) ?_
              simp [encSer_eq, encIsss_eq, encIss_eq, patR_1, patR_2, hasI_eq, hls, h52, hw1, hw2, hw0, hws, hkL, hx, hxx]
              try simp (disch := omega) only [wrap_i64]
              repeat refine ⟨by first | omega | assumption | (simp only [maxLen]; omega) | (intros; omega) | decide, ?_⟩
              refine hK _ ?_
              clear hK K
              refine AWp.cond rfl (fun h70 => ?_) (fun h70 => ?_)
              · try simp at h70
                have hno : ¬ OkI w x := fun hh => by unfold OkI at hh; omega
                rw [okF_no hwa hno] at hs
                have hb : serR s = 1 := by rw [hrest, if_neg (by rw [← hs]; decide)]
                -- region 19
                refine AWp.rseq E_ok [0, 1, 2, 3, 4, 5, 6, 7, 9, 10, 14, 19, 24, 28, 47, 49, 50, 51, 52, 70, 88, 92, 93, 94, 95, 126] fun K hK => ?_
                simp [encSer_eq, encIsss_eq, encIss_eq, patR_1, patR_2, hasI_eq, hls, h52, hw1, hw2, hw0, hws, hkL, hx, hxx]
                try simp (disch := omega) only [wrap_i64]
                repeat refine ⟨by first | omega | assumption | (simp only [maxLen]; omega) | (intros; omega) | decide, ?_⟩
                refine hK _ ?_
                clear hK K
                refine AWp.ret ?_
                repeat first | refine thenN ?_ | refine thenX ?_ | refine thenR ?_ | refine blockN ?_ | refine blockR ?_ | refine blockX ?_ | refine blockM rfl ?_
                simp [RetOk, RV, hb]
              · try simp at h70
                refine AWp.skip ?_
                repeat first | refine thenN ?_ | refine thenX ?_ | refine thenR ?_ | refine blockN ?_ | refine blockR ?_ | refine blockX ?_ | refine blockM rfl ?_
                refine AWp.seq ?_
                -- region 20
                refine AWp.rseq E_ok [0, 1, 2, 3, 4, 5, 6, 7, 9, 10, 14, 19, 24, 28, 47, 49, 50, 51, 52, 70, 88, 92, 93, 94, 95, 126] fun K hK => ?_
                simp [encSer_eq, encIsss_eq, encIss_eq, patR_1, patR_2, hasI_eq, hls, h52, hw1, hw2, hw0, hws, hkL, hx, hxx]
                try simp (disch := omega) only [wrap_i64]
                repeat refine ⟨by first | omega | assumption | (simp only [maxLen]; omega) | (intros; omega) | decide, ?_⟩
                refine meet.of (serial_has x) ?_
                simp [encSer_eq, encIsss_eq, encIss_eq, patR_1, patR_2, hasI_eq, hls, h52, hw1, hw2, hw0, hws, hkL, hx, hxx]
                try simp (disch := omega) only [wrap_i64]
                repeat refine ⟨by first | omega | assumption | (simp only [maxLen]; omega) | (intros; omega) | decide, ?_⟩
                refine meet.of (serial_within x.item 1 9999) ?_
                simp [encSer_eq, encIsss_eq, encIss_eq, patR_1, patR_2, hasI_eq, hls, h52, hw1, hw2, hw0, hws, hkL, hx, hxx]
                try simp (disch := omega) only [wrap_i64]
                repeat refine ⟨by first | omega | assumption | (simp only [maxLen]; omega) | (intros; omega) | decide, ?_⟩
                refine meet.of (serial_has x) ?_
                simp [encSer_eq, encIsss_eq, encIss_eq, patR_1, patR_2, hasI_eq, hls, h52, hw1, hw2, hw0, hws, hkL, hx, hxx]
                try simp (disch := omega) only [wrap_i64]
                repeat refine ⟨by first | omega | assumption | (simp only [maxLen]; omega) | (intros; omega) | decide, ?_⟩
                refine hK _ ?_
                clear hK K
                refine AWp.cond rfl (fun h88 => ?_) (fun h88 => ?_)
                · try simp at h88
                  have hno : ¬ OkI w x := fun hh => by unfold OkI at hh; omega
                  rw [okF_no hwa hno] at hs
                  have hb : serR s = 1 := by rw [hrest, if_neg (by rw [← hs]; decide)]
                  -- region 21
                  refine AWp.rseq E_ok [0, 1, 2, 3, 4, 5, 6, 7, 9, 10, 14, 19, 24, 28, 47, 49, 50, 51, 52, 70, 88, 92, 93, 94, 95, 126] fun K hK => ?_
                  simp [encSer_eq, encIsss_eq, encIss_eq, patR_1, patR_2, hasI_eq, hls, h52, hw1, hw2, hw0, hws, hkL, hx, hxx]
                  try simp (disch := omega) only [wrap_i64]
                  repeat refine ⟨by first | omega | assumption | (simp only [maxLen]; omega) | (intros; omega) | decide, ?_⟩
                  refine hK _ ?_
                  clear hK K
                  refine AWp.ret ?_
                  repeat first | refine thenN ?_ | refine thenX ?_ | refine thenR ?_ | refine blockN ?_ | refine blockR ?_ | refine blockX ?_ | refine blockM rfl ?_
                  simp [RetOk, RV, hb]
                · try simp at h88
                  have hok2 : OkI w x := by unfold OkI; omega
                  refine AWp.skip ?_
                  repeat first | refine thenN ?_ | refine thenX ?_ | refine thenR ?_ | refine blockN ?_ | refine blockR ?_ | refine blockX ?_ | refine blockM rfl ?_
                  -- region 22
                  refine AWp.rseq E_ok [0, 1, 2, 3, 4, 5, 6, 7, 9, 10, 14, 19, 24, 28, 47, 49, 50, 51, 52, 70, 88, 92, 93, 94, 95, 126] fun K hK => ?_
                  simp [encSer_eq, encIsss_eq, encIss_eq, patR_1, patR_2, hasI_eq, hls, h52, hw1, hw2, hw0, hws, hkL, hx, hxx]
                  try simp (disch := omega) only [wrap_i64]
                  repeat refine ⟨by first | omega | assumption | (simp only [maxLen]; omega) | (intros; omega) | decide, ?_⟩
                  refine hK _ ?_
                  clear hK K
                  refine AWp.block ?_
                  refine AWp.range (l := (s.iss.take k)) (F := clF x) (tot := clF x () (s.iss.take k)) (fun k2 y => match y with | () => True) (fun k2 y => match y with | () => [(0, T.val (D.agg [D.int IntKind.i64 s.rcd, D.int IntKind.i64 s.pat.start, D.int IntKind.i64 s.pat.every, D.int IntKind.i64 s.pat.per, D.int IntKind.i64 s.pat.first, encInts s.pat.skip, encInts s.pat.dbl, D.int IntKind.i64 s.next, (D.agg [D.int IntKind.i64 zIss.vol, D.int IntKind.i64 zIss.num, D.int IntKind.i64 zIss.last, D.int IntKind.i64 zIss.day, D.int IntKind.i64 zIss.st, D.int IntKind.i64 zIss.item]).slice (List.map encIss s.iss)])), (1, T.box [C.d (D.int IntKind.i64 s.rcd), C.d (D.int IntKind.i64 s.pat.start), C.d (D.int IntKind.i64 s.pat.every), C.d (D.int IntKind.i64 s.pat.per), C.d (D.int IntKind.i64 s.pat.first), C.d (encInts s.pat.skip), C.d (encInts s.pat.dbl), C.d (D.int IntKind.i64 s.next), C.d ((D.agg [D.int IntKind.i64 zIss.vol, D.int IntKind.i64 zIss.num, D.int IntKind.i64 zIss.last, D.int IntKind.i64 zIss.day, D.int IntKind.i64 zIss.st, D.int IntKind.i64 zIss.item]).slice (List.map encIss s.iss))]), (4, T.val ((D.agg [D.int IntKind.i64 zIss.vol, D.int IntKind.i64 zIss.num, D.int IntKind.i64 zIss.last, D.int IntKind.i64 zIss.day, D.int IntKind.i64 zIss.st, D.int IntKind.i64 zIss.item]).slice (List.map encIss L))), (6, T.box [C.d (D.int IntKind.i64 x.vol), C.d (D.int IntKind.i64 x.num), C.d (D.int IntKind.i64 x.last), C.d (D.int IntKind.i64 x.day), C.d (D.int IntKind.i64 x.st), C.d (D.int IntKind.i64 x.item)]), (49, T.val ((D.agg [D.int IntKind.i64 zIss.vol, D.int IntKind.i64 zIss.num, D.int IntKind.i64 zIss.last, D.int IntKind.i64 zIss.day, D.int IntKind.i64 zIss.st, D.int IntKind.i64 zIss.item]).slice (List.map encIss s.iss))), (50, T.val (D.int IntKind.i64 ↑s.iss.length)), (51, T.val (D.int IntKind.i64 ↑k)), (92, T.val ((D.agg [D.int IntKind.i64 zIss.vol, D.int IntKind.i64 zIss.num, D.int IntKind.i64 zIss.last, D.int IntKind.i64 zIss.day, D.int IntKind.i64 zIss.st, D.int IntKind.i64 zIss.item]).slice (List.take k (List.map encIss s.iss)))), (93, T.val (D.int IntKind.i64 ↑(min k s.iss.length))), (94, T.val (.int .i64 k2))]) () ?_ rfl ?_ ?_
                  · simp [Weak, TW, encSer_eq, encIsss_eq, encIss_eq, patR_1, patR_2, hasI_eq]
                  · first | exact trivial | (simp; omega) | simp
                  rintro k2 ⟨⟩ hk2 hs2 hi2
                  try simp only at hi2
                  -- region 23
                  refine AWp.rseq E_ok [0, 1, 2, 3, 4, 5, 6, 7, 9, 10, 14, 19, 24, 28, 47, 49, 50, 51, 52, 70, 88, 92, 93, 94, 95, 126] fun K hK => ?_
                  simp [encSer_eq, encIsss_eq, encIss_eq, patR_1, patR_2, hasI_eq, hls, h52, hw1, hw2, hw0, hws, hkL, hx, hxx]
                  try simp (disch := omega) only [wrap_i64]
                  repeat refine ⟨by first | omega | assumption | (simp only [maxLen]; omega) | (intros; omega) | decide, ?_⟩
                  refine hK _ ?_
                  clear hK K
                  refine AWp.seq ?_
                  refine AWp.cond rfl (fun h95 => ?_) (fun h95 => ?_)
                  · try simp at h95
                    have hlt2 : k2 < (s.iss.take k).length := by rw [List.length_take]; omega
                    obtain ⟨x2, hx2, hxx2, hd2⟩ := at_indexG (l := (s.iss.take k)) hlt2
                    rw [hd2] at hs2
                    have hk2k : k2 < k := by rw [List.length_take] at hlt2; omega
                    have hk2l : k2 < s.iss.length := by omega
                    have hy2 : s.iss[k2]? = some x2 := by have := hx2; rw [List.getElem?_take, if_pos hk2k] at this; exact this
                    have hz2 : s.iss[k2]'hk2l = x2 := (List.getElem?_eq_some_iff.1 hy2).2
                    refine AWp.skip ?_
                    repeat first | refine thenN ?_ | refine thenX ?_ | refine thenR ?_ | refine blockN ?_ | refine blockR ?_ | refine blockX ?_ | refine blockM rfl ?_
                    refine AWp.seq ?_
                    refine AWp.block ?_
                    -- region 24
                    refine AWp.rseq E_ok [0, 1, 2, 3, 4, 5, 6, 7, 9, 10, 14, 19, 24, 28, 47, 49, 50, 51, 52, 70, 88, 92, 93, 94, 95, 126] fun K hK => ?_
                    simp [encSer_eq, encIsss_eq, encIss_eq, patR_1, patR_2, hasI_eq, hls, h52, hw1, hw2, hw0, hws, hkL, hx, hxx, h95, hk2k, hk2l, hy2, hz2, hx2, hxx2]
                    try simp (disch := omega) only [wrap_i64]
                    repeat refine ⟨by first | omega | assumption | (simp only [maxLen]; omega) | (intros; omega) | decide, ?_⟩
                    refine hK _ ?_
                    clear hK K
                    -- region 25
                    refine AWp.rseq E_ok [0, 1, 2, 3, 4, 5, 6, 7, 9, 10, 14, 19, 24, 28, 47, 49, 50, 51, 52, 70, 88, 92, 93, 94, 95, 126] fun K hK => ?_
                    simp [encSer_eq, encIsss_eq, encIss_eq, patR_1, patR_2, hasI_eq, hls, h52, hw1, hw2, hw0, hws, hkL, hx, hxx, h95, hk2k, hk2l, hy2, hz2, hx2, hxx2]
                    try simp (disch := omega) only [wrap_i64]
                    repeat refine ⟨by first | omega | assumption | (simp only [maxLen]; omega) | (intros; omega) | decide, ?_⟩
                    refine hK _ ?_
                    clear hK K
                    -- region 26
                    refine AWp.rseq E_ok [0, 1, 2, 3, 4, 5, 6, 7, 9, 10, 14, 19, 24, 28, 47, 49, 50, 51, 52, 70, 88, 92, 93, 94, 95, 126] fun K hK => ?_
                    simp [encSer_eq, encIsss_eq, encIss_eq, patR_1, patR_2, hasI_eq, hls, h52, hw1, hw2, hw0, hws, hkL, hx, hxx, h95, hk2k, hk2l, hy2, hz2, hx2, hxx2]
                    try simp (disch := omega) only [wrap_i64]
                    repeat refine ⟨by first | omega | assumption | (simp only [maxLen]; omega) | (intros; omega) | decide, ?_⟩
                    refine hK _ ?_
                    clear hK K
                    refine AWp.cond rfl (fun h126 => ?_) (fun h126 => ?_)
                    · try simp at h126
                      have hcl : Clash x x2 := by unfold Clash; omega
                      rw [clF, if_pos hcl] at hs2
                      rw [okF_cl hwa hok2 hs2.symm] at hs
                      have hb : serR s = 1 := by rw [hrest, if_neg (by rw [← hs]; decide)]
                      -- region 27
                      refine AWp.rseq E_ok [0, 1, 2, 3, 4, 5, 6, 7, 9, 10, 14, 19, 24, 28, 47, 49, 50, 51, 52, 70, 88, 92, 93, 94, 95, 126] fun K hK => ?_
                      simp [encSer_eq, encIsss_eq, encIss_eq, patR_1, patR_2, hasI_eq, hls, h52, hw1, hw2, hw0, hws, hkL, hx, hxx, h95, hk2k, hk2l, hy2, hz2, hx2, hxx2]
                      try simp (disch := omega) only [wrap_i64]
                      repeat refine ⟨by first | omega | assumption | (simp only [maxLen]; omega) | (intros; omega) | decide, ?_⟩
                      refine hK _ ?_
                      clear hK K
                      refine AWp.ret ?_
                      repeat first | refine thenN ?_ | refine thenX ?_ | refine thenR ?_ | refine blockN ?_ | refine blockR ?_ | refine blockX ?_ | refine blockM rfl ?_
                      simp [RetOk, RV, hb]
                    · try simp at h126
                      have hcl : ¬ Clash x x2 := by unfold Clash; omega
                      rw [clF, if_neg hcl] at hs2
                      refine AWp.skip ?_
                      repeat first | refine thenN ?_ | refine thenX ?_ | refine thenR ?_ | refine blockN ?_ | refine blockR ?_ | refine blockX ?_ | refine blockM rfl ?_
                      -- region 28
                      refine AWp.rend E_ok [0, 1, 2, 3, 4, 5, 6, 7, 9, 10, 14, 19, 24, 28, 47, 49, 50, 51, 52, 70, 88, 92, 93, 94, 95, 126] fun K hK => ?_
                      simp [encSer_eq, encIsss_eq, encIss_eq, patR_1, patR_2, hasI_eq, hls, h52, hw1, hw2, hw0, hws, hkL, hx, hxx, h95, hk2k, hk2l, hy2, hz2, hx2, hxx2]
                      try simp (disch := omega) only [wrap_i64]
                      repeat refine ⟨by first | omega | assumption | (simp only [maxLen]; omega) | (intros; omega) | decide, ?_⟩
                      refine hK _ ?_
                      clear hK K
                      repeat first | refine thenN ?_ | refine thenX ?_ | refine thenR ?_ | refine blockN ?_ | refine blockR ?_ | refine blockX ?_ | refine blockM rfl ?_
                      have hw2 : IntKind.i64.wrap ((k2 : Int) + 1) = (k2 : Int) + 1 := by rw [wrap_i64] <;> omega
                      skip
                      refine ⟨_, hlt2, hs2, ?_, ?_⟩
                      · first | exact trivial | (simp; omega) | simp
                      · simp [Weak, TW, hw2, encSer_eq, encIsss_eq, encIss_eq, patR_1, patR_2, hasI_eq] <;> omega
                  · try simp at h95
                    obtain rfl : k2 = (s.iss.take k).length := by rw [List.length_take] at hk2 ⊢; omega
                    simp only [List.drop_length, clF] at hs2
                    rw [okF_go hwa hok2 hs2.symm] at hs
                    refine AWp.exit ?_
                    repeat first | refine thenN ?_ | refine thenX ?_ | refine thenR ?_ | refine blockN ?_ | refine blockR ?_ | refine blockX ?_ | refine blockM rfl ?_
                    -- region 29
                    refine AWp.rend E_ok [0, 1, 2, 3, 4, 5, 6, 7, 9, 10, 14, 19, 24, 28, 47, 49, 50, 51, 52, 70, 88, 92, 93, 94, 95, 126] fun K hK => ?_
                    simp [encSer_eq, encIsss_eq, encIss_eq, patR_1, patR_2, hasI_eq, hls, h52, hw1, hw2, hw0, hws, hkL, hx, hxx, h95]
                    try simp (disch := omega) only [wrap_i64]
                    repeat refine ⟨by first | omega | assumption | (simp only [maxLen]; omega) | (intros; omega) | decide, ?_⟩
                    refine hK _ ?_
                    clear hK K
                    repeat first | refine thenN ?_ | refine thenX ?_ | refine thenR ?_ | refine blockN ?_ | refine blockR ?_ | refine blockX ?_ | refine blockM rfl ?_
                    have hw : IntKind.i64.wrap ((k : Int) + 1) = (k : Int) + 1 := by rw [wrap_i64] <;> omega
                    skip
                    refine ⟨_, h52, hs, ?_, ?_⟩
                    · first | exact trivial | (simp; omega) | simp
                    · simp [Weak, TW, hw, encSer_eq, encIsss_eq, encIss_eq, patR_1, patR_2, hasI_eq] <;> omega
            · try simp at h52
              obtain rfl : k = s.iss.length := by omega
              simp [okF] at hs
              have hb : serR s = 0 := by rw [hrest, if_pos (by simp [hs])]
              refine AWp.exit ?_
              repeat first | refine thenN ?_ | refine thenX ?_ | refine thenR ?_ | refine blockN ?_ | refine blockR ?_ | refine blockX ?_ | refine blockM rfl ?_
              -- region 30
              refine AWp.rseq E_ok [0, 1, 2, 3, 4, 5, 6, 7, 9, 10, 14, 19, 24, 28, 47, 49, 50, 51, 52, 70, 88, 92, 93, 94, 95, 126] fun K hK => ?_
              simp [encSer_eq, encIsss_eq, encIss_eq, patR_1, patR_2, hasI_eq, hls, h52]
              try simp (disch := omega) only [wrap_i64]
              repeat refine ⟨by first | omega | assumption | (simp only [maxLen]; omega) | (intros; omega) | decide, ?_⟩
              refine hK _ ?_
              clear hK K
              refine AWp.ret ?_
              repeat first | refine thenN ?_ | refine thenX ?_ | refine thenR ?_ | refine blockN ?_ | refine blockR ?_ | refine blockX ?_ | refine blockM rfl ?_
              simp [RetOk, RV, hb]
end Go.Proofs.Ytceapemkefaicaa

set_option maxRecDepth 100000
set_option linter.unusedSimpArgs false
set_option linter.unusedVariables false
namespace Go.Proofs.Ytceapemkefaicaa
open Go Ab Pl
theorem serial_New_x : ACalls E.P 18 [.int .i64 5, encPat qP] (.tup [encSer sQ, .int .i64 0]) := by
  have := serial_New 5 qP
  rwa [show newR 5 qP = (sQ, 0) by decide +kernel] at this
theorem serial_Expect_x (d : Int) (r : Ser) (h : expR sQ d = (r, 0)) : ACalls E.P 22 [encSer sQ, .int .i64 d] (.tup [encSer r, .int .i64 0]) := by
  have := serial_Expect sQ d qP_ok (by decide) (by decide)
  rwa [h] at this
theorem serial_Receive_x (s r : Ser) (v n it e : Int) (hl : s.iss.length ≤ 1000) (h : recR s v n it = (r, e)) : ACalls E.P 24 [encSer s, .int .i64 v, .int .i64 n, .int .i64 it] (.tup [encSer r, .int .i64 e]) := by
  have := serial_Receive s v n it hl
  rwa [h] at this
theorem serial_Miss_x (s r : Ser) (v n e : Int) (hl : s.iss.length ≤ 1000) (h : missR s v n = (r, e)) : ACalls E.P 26 [encSer s, .int .i64 v, .int .i64 n] (.tup [encSer r, .int .i64 e]) := by
  have := serial_Miss s v n hl
  rwa [h] at this
theorem serial_Bind_x (s r : Ser) (v it e : Int) (hl : s.iss.length ≤ 1000) (h : bindR s v it = (r, e)) : ACalls E.P 31 [encSer s, .int .i64 v, .int .i64 it] (.tup [encSer r, .int .i64 e]) := by
  have := serial_Bind s v it hl
  rwa [h] at this
theorem serial_Claim_x (s r : Ser) (d w : Int) (l : List Int) (hl : s.iss.length ≤ 1000) (hd : ∀ x ∈ s.iss, 0 ≤ x.day ∧ x.day ≤ 200000) (h : claimR s d w = (r, l)) : ACalls E.P 28 [encSer s, .int .i64 d, .int .i64 w] (.tup [encSer r, encInts l]) := by
  have := serial_Claim s d w hl hd
  rwa [h] at this
theorem serial_Gaps_x (s : Ser) (l : List Int) (hl : s.iss.length ≤ 1000) (h : gapsR s = l) : ACalls E.P 36 [encSer s] (.d (encInts l)) := h ▸ serial_Gaps s hl
theorem serial_Held_x (s : Ser) (l : List Spn) (hl : s.iss.length ≤ 1000) (hv : ∀ x ∈ s.iss, 0 ≤ x.vol ∧ x.vol ≤ 100000) (h : heldR s = l) : ACalls E.P 34 [encSer s] (.d (encSpns l)) := h ▸ serial_Held s hl hv
theorem serial_Right_x (s : Ser) (e : Int) (hl : s.iss.length ≤ 1000) (h : serR s = e) : ACalls E.P 15 [encSer s] (.d (.int .i64 e)) := h ▸ serial_Right s hl
theorem serial_New_1 (p : Pat) (hp : patR p = 0) : ACalls E.P 18 [.int .i64 1, encPat p] (.tup [encSer ⟨1, p, 0, []⟩, .int .i64 0]) := by
  have := serial_New 1 p
  rwa [show newR 1 p = (⟨1, p, 0, []⟩, 0) by unfold newR; rw [if_neg (by decide), if_neg (by omega)]] at this

end Go.Proofs.Ytceapemkefaicaa

set_option maxRecDepth 100000
set_option linter.unusedSimpArgs false
set_option linter.unusedVariables false
namespace Go.Proofs.Ytceapemkefaicaa
open Go Ab Pl
set_option maxHeartbeats 8000000 in
theorem law37_alive  : ACalls E.P 17 [] (.d (.bool true)) := by
  refine ACalls.intro E_ok Try.func17 rfl rfl Try.ntmps17 Try.results17 (Nat.le_of_ble_eq_true rfl) fun hok base S0 w0 => ?_
  -- region 0
  refine AWp.rseq E_ok [0, 1, 2, 3, 4, 5, 6, 7, 8, 10, 12, 14, 15, 16, 18, 19, 20, 21, 22, 23, 25, 78, 150, 151, 152, 161, 173] fun K hK => ?_
  simp [encSer_eq, encIsss_eq, encIss_eq, encInts_eq, encPat_eq, encSpns_eq, encSpn_eq, qP, sQ, sB, sD, sX, zSer, zPat, zIss, zSpn, sL_3]
  try simp (disch := omega) only [wrap_i64]
  repeat refine ⟨by first | omega | assumption | (simp only [maxLen]; omega) | (intros; omega) | decide, ?_⟩
  refine hK _ ?_
  clear hK K
  -- region 1
  refine AWp.rseq E_ok [0, 1, 2, 3, 4, 5, 6, 7, 8, 10, 12, 14, 15, 16, 18, 19, 20, 21, 22, 23, 25, 78, 150, 151, 152, 161, 173] fun K hK => ?_
  simp [encSer_eq, encIsss_eq, encIss_eq, encInts_eq, encPat_eq, encSpns_eq, encSpn_eq, qP, sQ, sB, sD, sX, zSer, zPat, zIss, zSpn, sL_3]
  try simp (disch := omega) only [wrap_i64]
  repeat refine ⟨by first | omega | assumption | (simp only [maxLen]; omega) | (intros; omega) | decide, ?_⟩
  refine meet.of (serial_New_x) ?_
  simp [encSer_eq, encIsss_eq, encIss_eq, encInts_eq, encPat_eq, encSpns_eq, encSpn_eq, qP, sQ, sB, sD, sX, zSer, zPat, zIss, zSpn, sL_3]
  try simp (disch := omega) only [wrap_i64]
  repeat refine ⟨by first | omega | assumption | (simp only [maxLen]; omega) | (intros; omega) | decide, ?_⟩
  refine hK _ ?_
  clear hK K
  -- region 2
  refine AWp.rseq E_ok [0, 1, 2, 3, 4, 5, 6, 7, 8, 10, 12, 14, 15, 16, 18, 19, 20, 21, 22, 23, 25, 78, 150, 151, 152, 161, 173] fun K hK => ?_
  simp [encSer_eq, encIsss_eq, encIss_eq, encInts_eq, encPat_eq, encSpns_eq, encSpn_eq, qP, sQ, sB, sD, sX, zSer, zPat, zIss, zSpn, sL_3]
  try simp (disch := omega) only [wrap_i64]
  repeat refine ⟨by first | omega | assumption | (simp only [maxLen]; omega) | (intros; omega) | decide, ?_⟩
  refine meet.of (serial_Expect_x 100 _ q_exp1) ?_
  simp [encSer_eq, encIsss_eq, encIss_eq, encInts_eq, encPat_eq, encSpns_eq, encSpn_eq, qP, sQ, sB, sD, sX, zSer, zPat, zIss, zSpn, sL_3]
  try simp (disch := omega) only [wrap_i64]
  repeat refine ⟨by first | omega | assumption | (simp only [maxLen]; omega) | (intros; omega) | decide, ?_⟩
  refine hK _ ?_
  clear hK K
  -- region 3
  refine AWp.rseq E_ok [0, 1, 2, 3, 4, 5, 6, 7, 8, 10, 12, 14, 15, 16, 18, 19, 20, 21, 22, 23, 25, 78, 150, 151, 152, 161, 173] fun K hK => ?_
  simp [encSer_eq, encIsss_eq, encIss_eq, encInts_eq, encPat_eq, encSpns_eq, encSpn_eq, qP, sQ, sB, sD, sX, zSer, zPat, zIss, zSpn, sL_3]
  try simp (disch := omega) only [wrap_i64]
  repeat refine ⟨by first | omega | assumption | (simp only [maxLen]; omega) | (intros; omega) | decide, ?_⟩
  refine meet.of (serial_Expect_x 500 _ q_exp5) ?_
  simp [encSer_eq, encIsss_eq, encIss_eq, encInts_eq, encPat_eq, encSpns_eq, encSpn_eq, qP, sQ, sB, sD, sX, zSer, zPat, zIss, zSpn, sL_3]
  try simp (disch := omega) only [wrap_i64]
  repeat refine ⟨by first | omega | assumption | (simp only [maxLen]; omega) | (intros; omega) | decide, ?_⟩
  refine hK _ ?_
  clear hK K
  refine AWp.seq ?_
  -- region 4
  refine AWp.rseq E_ok [0, 1, 2, 3, 4, 5, 6, 7, 8, 10, 12, 14, 15, 16, 18, 19, 20, 21, 22, 23, 25, 78, 150, 151, 152, 161, 173] fun K hK => ?_
  simp [encSer_eq, encIsss_eq, encIss_eq, encInts_eq, encPat_eq, encSpns_eq, encSpn_eq, qP, sQ, sB, sD, sX, zSer, zPat, zIss, zSpn, sL_3]
  try simp (disch := omega) only [wrap_i64]
  repeat refine ⟨by first | omega | assumption | (simp only [maxLen]; omega) | (intros; omega) | decide, ?_⟩
  refine hK _ ?_
  clear hK K
  refine AWp.cond rfl (fun h78 => ?_) (fun h78 => ?_)
  · exact absurd h78 (by simp)
  · try simp at h78
    refine AWp.skip ?_
    repeat first | refine thenN ?_ | refine thenX ?_ | refine thenR ?_ | refine blockN ?_ | refine blockR ?_ | refine blockX ?_ | refine blockM rfl ?_
    -- region 6
    refine AWp.rseq E_ok [0, 1, 2, 3, 4, 5, 6, 7, 8, 10, 12, 14, 15, 16, 18, 19, 20, 21, 22, 23, 25, 78, 150, 151, 152, 161, 173] fun K hK => ?_
    simp [encSer_eq, encIsss_eq, encIss_eq, encInts_eq, encPat_eq, encSpns_eq, encSpn_eq, qP, sQ, sB, sD, sX, zSer, zPat, zIss, zSpn, sL_3, h78]
    try simp (disch := omega) only [wrap_i64]
    repeat refine ⟨by first | omega | assumption | (simp only [maxLen]; omega) | (intros; omega) | decide, ?_⟩
    refine meet.of (serial_Receive_x ⟨5, qP, 5, sB⟩ ⟨5, qP, 5, sL 0⟩ 3 2 11 0 (by decide) (by decide +kernel)) ?_
    simp [encSer_eq, encIsss_eq, encIss_eq, encInts_eq, encPat_eq, encSpns_eq, encSpn_eq, qP, sQ, sB, sD, sX, zSer, zPat, zIss, zSpn, sL_3, h78]
    try simp (disch := omega) only [wrap_i64]
    repeat refine ⟨by first | omega | assumption | (simp only [maxLen]; omega) | (intros; omega) | decide, ?_⟩
    refine hK _ ?_
    clear hK K
    -- region 7
    refine AWp.rseq E_ok [0, 1, 2, 3, 4, 5, 6, 7, 8, 10, 12, 14, 15, 16, 18, 19, 20, 21, 22, 23, 25, 78, 150, 151, 152, 161, 173] fun K hK => ?_
    simp [encSer_eq, encIsss_eq, encIss_eq, encInts_eq, encPat_eq, encSpns_eq, encSpn_eq, qP, sQ, sB, sD, sX, zSer, zPat, zIss, zSpn, sL_3, h78]
    try simp (disch := omega) only [wrap_i64]
    repeat refine ⟨by first | omega | assumption | (simp only [maxLen]; omega) | (intros; omega) | decide, ?_⟩
    refine meet.of (serial_Receive_x ⟨5, qP, 5, sL 0⟩ zSer 3 2 12 12 (by decide) (by decide +kernel)) ?_
    simp [encSer_eq, encIsss_eq, encIss_eq, encInts_eq, encPat_eq, encSpns_eq, encSpn_eq, qP, sQ, sB, sD, sX, zSer, zPat, zIss, zSpn, sL_3, h78]
    try simp (disch := omega) only [wrap_i64]
    repeat refine ⟨by first | omega | assumption | (simp only [maxLen]; omega) | (intros; omega) | decide, ?_⟩
    refine hK _ ?_
    clear hK K
    -- region 8
    refine AWp.rseq E_ok [0, 1, 2, 3, 4, 5, 6, 7, 8, 10, 12, 14, 15, 16, 18, 19, 20, 21, 22, 23, 25, 78, 150, 151, 152, 161, 173] fun K hK => ?_
    simp [encSer_eq, encIsss_eq, encIss_eq, encInts_eq, encPat_eq, encSpns_eq, encSpn_eq, qP, sQ, sB, sD, sX, zSer, zPat, zIss, zSpn, sL_3, h78]
    try simp (disch := omega) only [wrap_i64]
    repeat refine ⟨by first | omega | assumption | (simp only [maxLen]; omega) | (intros; omega) | decide, ?_⟩
    refine meet.of (serial_Receive_x ⟨5, qP, 5, sL 0⟩ zSer 3 3 11 7 (by decide) (by decide +kernel)) ?_
    simp [encSer_eq, encIsss_eq, encIss_eq, encInts_eq, encPat_eq, encSpns_eq, encSpn_eq, qP, sQ, sB, sD, sX, zSer, zPat, zIss, zSpn, sL_3, h78]
    try simp (disch := omega) only [wrap_i64]
    repeat refine ⟨by first | omega | assumption | (simp only [maxLen]; omega) | (intros; omega) | decide, ?_⟩
    refine hK _ ?_
    clear hK K
    -- region 9
    refine AWp.rseq E_ok [0, 1, 2, 3, 4, 5, 6, 7, 8, 10, 12, 14, 15, 16, 18, 19, 20, 21, 22, 23, 25, 78, 150, 151, 152, 161, 173] fun K hK => ?_
    simp [encSer_eq, encIsss_eq, encIss_eq, encInts_eq, encPat_eq, encSpns_eq, encSpn_eq, qP, sQ, sB, sD, sX, zSer, zPat, zIss, zSpn, sL_3, h78]
    try simp (disch := omega) only [wrap_i64]
    repeat refine ⟨by first | omega | assumption | (simp only [maxLen]; omega) | (intros; omega) | decide, ?_⟩
    refine meet.of (serial_Miss_x ⟨5, qP, 5, sL 0⟩ zSer 3 2 12 (by decide) (by decide +kernel)) ?_
    simp [encSer_eq, encIsss_eq, encIss_eq, encInts_eq, encPat_eq, encSpns_eq, encSpn_eq, qP, sQ, sB, sD, sX, zSer, zPat, zIss, zSpn, sL_3, h78]
    try simp (disch := omega) only [wrap_i64]
    repeat refine ⟨by first | omega | assumption | (simp only [maxLen]; omega) | (intros; omega) | decide, ?_⟩
    refine hK _ ?_
    clear hK K
    -- region 10
    refine AWp.rseq E_ok [0, 1, 2, 3, 4, 5, 6, 7, 8, 10, 12, 14, 15, 16, 18, 19, 20, 21, 22, 23, 25, 78, 150, 151, 152, 161, 173] fun K hK => ?_
    simp [encSer_eq, encIsss_eq, encIss_eq, encInts_eq, encPat_eq, encSpns_eq, encSpn_eq, qP, sQ, sB, sD, sX, zSer, zPat, zIss, zSpn, sL_3, h78]
    try simp (disch := omega) only [wrap_i64]
    repeat refine ⟨by first | omega | assumption | (simp only [maxLen]; omega) | (intros; omega) | decide, ?_⟩
    refine meet.of (serial_Claim_x ⟨5, qP, 5, sL 0⟩ ⟨5, qP, 5, sD 3 1⟩ 300 0 [0, 2] (by decide) (by decide) (by decide +kernel)) ?_
    simp [encSer_eq, encIsss_eq, encIss_eq, encInts_eq, encPat_eq, encSpns_eq, encSpn_eq, qP, sQ, sB, sD, sX, zSer, zPat, zIss, zSpn, sL_3, h78]
    try simp (disch := omega) only [wrap_i64]
    repeat refine ⟨by first | omega | assumption | (simp only [maxLen]; omega) | (intros; omega) | decide, ?_⟩
    refine hK _ ?_
    clear hK K
    -- region 11
    refine AWp.rseq E_ok [0, 1, 2, 3, 4, 5, 6, 7, 8, 10, 12, 14, 15, 16, 18, 19, 20, 21, 22, 23, 25, 78, 150, 151, 152, 161, 173] fun K hK => ?_
    simp [encSer_eq, encIsss_eq, encIss_eq, encInts_eq, encPat_eq, encSpns_eq, encSpn_eq, qP, sQ, sB, sD, sX, zSer, zPat, zIss, zSpn, sL_3, h78]
    try simp (disch := omega) only [wrap_i64]
    repeat refine ⟨by first | omega | assumption | (simp only [maxLen]; omega) | (intros; omega) | decide, ?_⟩
    refine meet.of (serial_Claim_x ⟨5, qP, 5, sL 0⟩ ⟨5, qP, 5, sD 1 1⟩ 300 30 [0] (by decide) (by decide) (by decide +kernel)) ?_
    simp [encSer_eq, encIsss_eq, encIss_eq, encInts_eq, encPat_eq, encSpns_eq, encSpn_eq, qP, sQ, sB, sD, sX, zSer, zPat, zIss, zSpn, sL_3, h78]
    try simp (disch := omega) only [wrap_i64]
    repeat refine ⟨by first | omega | assumption | (simp only [maxLen]; omega) | (intros; omega) | decide, ?_⟩
    refine hK _ ?_
    clear hK K
    refine AWp.seq ?_
    -- region 12
    refine AWp.rseq E_ok [0, 1, 2, 3, 4, 5, 6, 7, 8, 10, 12, 14, 15, 16, 18, 19, 20, 21, 22, 23, 25, 78, 150, 151, 152, 161, 173] fun K hK => ?_
    simp [encSer_eq, encIsss_eq, encIss_eq, encInts_eq, encPat_eq, encSpns_eq, encSpn_eq, qP, sQ, sB, sD, sX, zSer, zPat, zIss, zSpn, sL_3, h78]
    try simp (disch := omega) only [wrap_i64]
    repeat refine ⟨by first | omega | assumption | (simp only [maxLen]; omega) | (intros; omega) | decide, ?_⟩
    refine meet.of (serial_Gaps_x ⟨5, qP, 5, sD 3 1⟩ [0, 2] (by decide) (by decide +kernel)) ?_
    simp [encSer_eq, encIsss_eq, encIss_eq, encInts_eq, encPat_eq, encSpns_eq, encSpn_eq, qP, sQ, sB, sD, sX, zSer, zPat, zIss, zSpn, sL_3, h78]
    try simp (disch := omega) only [wrap_i64]
    repeat refine ⟨by first | omega | assumption | (simp only [maxLen]; omega) | (intros; omega) | decide, ?_⟩
    refine hK _ ?_
    clear hK K
    refine AWp.cond rfl (fun h150 => ?_) (fun h150 => ?_)
    · exact absurd h150 (by simp)
    · try simp at h150
      refine AWp.skip ?_
      repeat first | refine thenN ?_ | refine thenX ?_ | refine thenR ?_ | refine blockN ?_ | refine blockR ?_ | refine blockX ?_ | refine blockM rfl ?_
      refine AWp.seq ?_
      -- region 14
      refine AWp.rseq E_ok [0, 1, 2, 3, 4, 5, 6, 7, 8, 10, 12, 14, 15, 16, 18, 19, 20, 21, 22, 23, 25, 78, 150, 151, 152, 161, 173] fun K hK => ?_
      simp [encSer_eq, encIsss_eq, encIss_eq, encInts_eq, encPat_eq, encSpns_eq, encSpn_eq, qP, sQ, sB, sD, sX, zSer, zPat, zIss, zSpn, sL_3, h78, h150]
      try simp (disch := omega) only [wrap_i64]
      repeat refine ⟨by first | omega | assumption | (simp only [maxLen]; omega) | (intros; omega) | decide, ?_⟩
      refine hK _ ?_
      clear hK K
      refine AWp.block ?_
      refine AWp.loop (ι := { i : Nat // i ≤ 3 }) (fun x => match x with | ⟨i, hi⟩ => [(7, T.box [C.d (.int .i64 5), C.d (.int .i64 100), C.d (.int .i64 3), C.d (.int .i64 4), C.d (.int .i64 3), C.d (D.slice (.int .i64 0) []), C.d (D.slice (.int .i64 0) []), C.d (.int .i64 5), C.d (D.slice (D.agg [.int .i64 0, .int .i64 0, .int .i64 0, .int .i64 0, .int .i64 0, .int .i64 0]) ((sL i).map encIss))]), (8, T.val (.int .i64 0)), (151, T.val (.int .i64 i))]) (fun x => match x with | ⟨i, hi⟩ => 3 - i) ⟨0, by omega⟩ ?_ ?_
      · simp [Weak, TW, encSer_eq, encIsss_eq, encIss_eq, encInts_eq, encPat_eq, encSpns_eq, encSpn_eq, qP, sQ, sB, sD, sX, zSer, zPat, zIss, zSpn, sL_3]
      rintro ⟨i, hi⟩
      simp only
      try simp only at hi
      -- region 15
      refine AWp.rseq E_ok [0, 1, 2, 3, 4, 5, 6, 7, 8, 10, 12, 14, 15, 16, 18, 19, 20, 21, 22, 23, 25, 78, 150, 151, 152, 161, 173] fun K hK => ?_
      simp [encSer_eq, encIsss_eq, encIss_eq, encInts_eq, encPat_eq, encSpns_eq, encSpn_eq, qP, sQ, sB, sD, sX, zSer, zPat, zIss, zSpn, sL_3, h78, h150]
      try simp (disch := omega) only [wrap_i64]
      repeat refine ⟨by first | omega | assumption | (simp only [maxLen]; omega) | (intros; omega) | decide, ?_⟩
      refine hK _ ?_
      clear hK K
      refine AWp.seq ?_
      refine AWp.cond rfl (fun h152 => ?_) (fun h152 => ?_)
      · try simp at h152
        refine AWp.skip ?_
        repeat first | refine thenN ?_ | refine thenX ?_ | refine thenR ?_ | refine blockN ?_ | refine blockR ?_ | refine blockX ?_ | refine blockM rfl ?_
        refine AWp.seq ?_
        refine AWp.block ?_
        -- region 16
        refine AWp.rseq E_ok [0, 1, 2, 3, 4, 5, 6, 7, 8, 10, 12, 14, 15, 16, 18, 19, 20, 21, 22, 23, 25, 78, 150, 151, 152, 161, 173] fun K hK => ?_
        simp [encSer_eq, encIsss_eq, encIss_eq, encInts_eq, encPat_eq, encSpns_eq, encSpn_eq, qP, sQ, sB, sD, sX, zSer, zPat, zIss, zSpn, sL_3, h78, h150, h152]
        try simp (disch := omega) only [wrap_i64]
        repeat refine ⟨by first | omega | assumption | (simp only [maxLen]; omega) | (intros; omega) | decide, ?_⟩
        refine hK _ ?_
        clear hK K
        -- region 17
        refine AWp.rseq E_ok [0, 1, 2, 3, 4, 5, 6, 7, 8, 10, 12, 14, 15, 16, 18, 19, 20, 21, 22, 23, 25, 78, 150, 151, 152, 161, 173] fun K hK => ?_
        simp [encSer_eq, encIsss_eq, encIss_eq, encInts_eq, encPat_eq, encSpns_eq, encSpn_eq, qP, sQ, sB, sD, sX, zSer, zPat, zIss, zSpn, sL_3, h78, h150, h152]
        try simp (disch := omega) only [wrap_i64]
        repeat refine ⟨by first | omega | assumption | (simp only [maxLen]; omega) | (intros; omega) | decide, ?_⟩
        refine hK _ ?_
        clear hK K
        refine AWp.seq ?_
        -- region 18
        refine AWp.rseq E_ok [0, 1, 2, 3, 4, 5, 6, 7, 8, 10, 12, 14, 15, 16, 18, 19, 20, 21, 22, 23, 25, 78, 150, 151, 152, 161, 173] fun K hK => ?_
        simp [encSer_eq, encIsss_eq, encIss_eq, encInts_eq, encPat_eq, encSpns_eq, encSpn_eq, qP, sQ, sB, sD, sX, zSer, zPat, zIss, zSpn, sL_3, h78, h150, h152]
        try simp (disch := omega) only [wrap_i64]
        repeat refine ⟨by first | omega | assumption | (simp only [maxLen]; omega) | (intros; omega) | decide, ?_⟩
        refine hK _ ?_
        clear hK K
        refine AWp.cond rfl (fun h161 => ?_) (fun h161 => ?_)
        · try simp at h161
          have hq := q_rec i (by omega)
          rw [if_neg (by omega)] at hq
          have hw2 : IntKind.i64.wrap ((i : Int) + 2) = (i : Int) + 2 := by rw [wrap_i64] <;> omega
          have hw3 : IntKind.i64.wrap (20 + (i : Int)) = 20 + (i : Int) := by rw [wrap_i64] <;> omega
          -- region 19
          refine AWp.rend E_ok [0, 1, 2, 3, 4, 5, 6, 7, 8, 10, 12, 14, 15, 16, 18, 19, 20, 21, 22, 23, 25, 78, 150, 151, 152, 161, 173] fun K hK => ?_
          simp [encSer_eq, encIsss_eq, encIss_eq, encInts_eq, encPat_eq, encSpns_eq, encSpn_eq, qP, sQ, sB, sD, sX, zSer, zPat, zIss, zSpn, sL_3, h78, h150, h152, h161, hw2, hw3]
          try simp (disch := omega) only [wrap_i64]
          repeat refine ⟨by first | omega | assumption | (simp only [maxLen]; omega) | (intros; omega) | decide, ?_⟩
          refine hK _ ?_
          clear hK K
          repeat first | refine thenN ?_ | refine thenX ?_ | refine thenR ?_ | refine blockN ?_ | refine blockR ?_ | refine blockX ?_ | refine blockM rfl ?_
          -- region 20
          refine AWp.rseq E_ok [0, 1, 2, 3, 4, 5, 6, 7, 8, 10, 12, 14, 15, 16, 18, 19, 20, 21, 22, 23, 25, 78, 150, 151, 152, 161, 173] fun K hK => ?_
          simp [encSer_eq, encIsss_eq, encIss_eq, encInts_eq, encPat_eq, encSpns_eq, encSpn_eq, qP, sQ, sB, sD, sX, zSer, zPat, zIss, zSpn, sL_3, h78, h150, h152, h161, hw2, hw3]
          try simp (disch := omega) only [wrap_i64]
          repeat refine ⟨by first | omega | assumption | (simp only [maxLen]; omega) | (intros; omega) | decide, ?_⟩
          refine meet.of (serial_Receive_x _ _ _ _ _ _ (by simp [sL_len]) hq) ?_
          simp [encSer_eq, encIsss_eq, encIss_eq, encInts_eq, encPat_eq, encSpns_eq, encSpn_eq, qP, sQ, sB, sD, sX, zSer, zPat, zIss, zSpn, sL_3, h78, h150, h152, h161, hw2, hw3]
          try simp (disch := omega) only [wrap_i64]
          repeat refine ⟨by first | omega | assumption | (simp only [maxLen]; omega) | (intros; omega) | decide, ?_⟩
          refine hK _ ?_
          clear hK K
          -- region 21
          refine AWp.rseq E_ok [0, 1, 2, 3, 4, 5, 6, 7, 8, 10, 12, 14, 15, 16, 18, 19, 20, 21, 22, 23, 25, 78, 150, 151, 152, 161, 173] fun K hK => ?_
          simp [encSer_eq, encIsss_eq, encIss_eq, encInts_eq, encPat_eq, encSpns_eq, encSpn_eq, qP, sQ, sB, sD, sX, zSer, zPat, zIss, zSpn, sL_3, h78, h150, h152, h161, hw2, hw3]
          try simp (disch := omega) only [wrap_i64]
          repeat refine ⟨by first | omega | assumption | (simp only [maxLen]; omega) | (intros; omega) | decide, ?_⟩
          refine hK _ ?_
          clear hK K
          refine AWp.cond rfl (fun h173 => ?_) (fun h173 => ?_)
          · exact absurd h173 (by simp)
          · try simp at h173
            refine AWp.skip ?_
            repeat first | refine thenN ?_ | refine thenX ?_ | refine thenR ?_ | refine blockN ?_ | refine blockR ?_ | refine blockX ?_ | refine blockM rfl ?_
            -- region 23
            refine AWp.rend E_ok [0, 1, 2, 3, 4, 5, 6, 7, 8, 10, 12, 14, 15, 16, 18, 19, 20, 21, 22, 23, 25, 78, 150, 151, 152, 161, 173] fun K hK => ?_
            simp [encSer_eq, encIsss_eq, encIss_eq, encInts_eq, encPat_eq, encSpns_eq, encSpn_eq, qP, sQ, sB, sD, sX, zSer, zPat, zIss, zSpn, sL_3, h78, h150, h152, h161, hw2, hw3, h173]
            try simp (disch := omega) only [wrap_i64]
            repeat refine ⟨by first | omega | assumption | (simp only [maxLen]; omega) | (intros; omega) | decide, ?_⟩
            refine hK _ ?_
            clear hK K
            repeat first | refine thenN ?_ | refine thenX ?_ | refine thenR ?_ | refine blockN ?_ | refine blockR ?_ | refine blockX ?_ | refine blockM rfl ?_
            refine ⟨⟨i + 1, by omega⟩, ?_, by simp only; omega⟩
            have hw : IntKind.i64.wrap ((i : Int) + 1) = (i : Int) + 1 := by rw [wrap_i64] <;> omega
            simp [Weak, TW, hw] <;> (subst hi0; simp)
        · try simp at h161
          have hi0 : i = 0 := by omega
          have hq : recR ⟨5, qP, 5, sL 0⟩ 3 1 20 = (⟨5, qP, 5, sL 1⟩, 0) := q_rec 0 (by omega)
          refine AWp.skip ?_
          repeat first | refine thenN ?_ | refine thenX ?_ | refine thenR ?_ | refine blockN ?_ | refine blockR ?_ | refine blockX ?_ | refine blockM rfl ?_
          -- region 20
          refine AWp.rseq E_ok [0, 1, 2, 3, 4, 5, 6, 7, 8, 10, 12, 14, 15, 16, 18, 19, 20, 21, 22, 23, 25, 78, 150, 151, 152, 161, 173] fun K hK => ?_
          simp [encSer_eq, encIsss_eq, encIss_eq, encInts_eq, encPat_eq, encSpns_eq, encSpn_eq, qP, sQ, sB, sD, sX, zSer, zPat, zIss, zSpn, sL_3, h78, h150, h152, h161, hi0]
          try simp (disch := omega) only [wrap_i64]
          repeat refine ⟨by first | omega | assumption | (simp only [maxLen]; omega) | (intros; omega) | decide, ?_⟩
          refine meet.of (serial_Receive_x _ _ _ _ _ _ (by simp [sL_len]) hq) ?_
          simp [encSer_eq, encIsss_eq, encIss_eq, encInts_eq, encPat_eq, encSpns_eq, encSpn_eq, qP, sQ, sB, sD, sX, zSer, zPat, zIss, zSpn, sL_3, h78, h150, h152, h161, hi0]
          try simp (disch := omega) only [wrap_i64]
          repeat refine ⟨by first | omega | assumption | (simp only [maxLen]; omega) | (intros; omega) | decide, ?_⟩
          refine hK _ ?_
          clear hK K
          -- region 21
          refine AWp.rseq E_ok [0, 1, 2, 3, 4, 5, 6, 7, 8, 10, 12, 14, 15, 16, 18, 19, 20, 21, 22, 23, 25, 78, 150, 151, 152, 161, 173] fun K hK => ?_
          simp [encSer_eq, encIsss_eq, encIss_eq, encInts_eq, encPat_eq, encSpns_eq, encSpn_eq, qP, sQ, sB, sD, sX, zSer, zPat, zIss, zSpn, sL_3, h78, h150, h152, h161, hi0]
          try simp (disch := omega) only [wrap_i64]
          repeat refine ⟨by first | omega | assumption | (simp only [maxLen]; omega) | (intros; omega) | decide, ?_⟩
          refine hK _ ?_
          clear hK K
          refine AWp.cond rfl (fun h173 => ?_) (fun h173 => ?_)
          · exact absurd h173 (by simp)
          · try simp at h173
            refine AWp.skip ?_
            repeat first | refine thenN ?_ | refine thenX ?_ | refine thenR ?_ | refine blockN ?_ | refine blockR ?_ | refine blockX ?_ | refine blockM rfl ?_
            -- region 23
            refine AWp.rend E_ok [0, 1, 2, 3, 4, 5, 6, 7, 8, 10, 12, 14, 15, 16, 18, 19, 20, 21, 22, 23, 25, 78, 150, 151, 152, 161, 173] fun K hK => ?_
            simp [encSer_eq, encIsss_eq, encIss_eq, encInts_eq, encPat_eq, encSpns_eq, encSpn_eq, qP, sQ, sB, sD, sX, zSer, zPat, zIss, zSpn, sL_3, h78, h150, h152, h161, hi0, h173]
            try simp (disch := omega) only [wrap_i64]
            repeat refine ⟨by first | omega | assumption | (simp only [maxLen]; omega) | (intros; omega) | decide, ?_⟩
            refine hK _ ?_
            clear hK K
            repeat first | refine thenN ?_ | refine thenX ?_ | refine thenR ?_ | refine blockN ?_ | refine blockR ?_ | refine blockX ?_ | refine blockM rfl ?_
            refine ⟨⟨i + 1, by omega⟩, ?_, by simp only; omega⟩
            have hw : IntKind.i64.wrap ((i : Int) + 1) = (i : Int) + 1 := by rw [wrap_i64] <;> omega
            simp [Weak, TW, hw] <;> (subst hi0; simp)
      · try simp at h152
        obtain rfl : i = 3 := by omega
        refine AWp.exit ?_
        repeat first | refine thenN ?_ | refine thenX ?_ | refine thenR ?_ | refine blockN ?_ | refine blockR ?_ | refine blockX ?_ | refine blockM rfl ?_
        -- region 24
        refine AWp.rseq E_ok [0, 1, 2, 3, 4, 5, 6, 7, 8, 10, 12, 14, 15, 16, 18, 19, 20, 21, 22, 23, 25, 78, 150, 151, 152, 161, 173] fun K hK => ?_
        simp [encSer_eq, encIsss_eq, encIss_eq, encInts_eq, encPat_eq, encSpns_eq, encSpn_eq, qP, sQ, sB, sD, sX, zSer, zPat, zIss, zSpn, sL_3, h78, h150, h152]
        try simp (disch := omega) only [wrap_i64]
        repeat refine ⟨by first | omega | assumption | (simp only [maxLen]; omega) | (intros; omega) | decide, ?_⟩
        refine meet.of (serial_Held_x ⟨5, qP, 5, sL 3⟩ [⟨3, 3⟩] (by decide) (by decide) (by decide +kernel)) ?_
        simp [encSer_eq, encIsss_eq, encIss_eq, encInts_eq, encPat_eq, encSpns_eq, encSpn_eq, qP, sQ, sB, sD, sX, zSer, zPat, zIss, zSpn, sL_3, h78, h150, h152]
        try simp (disch := omega) only [wrap_i64]
        repeat refine ⟨by first | omega | assumption | (simp only [maxLen]; omega) | (intros; omega) | decide, ?_⟩
        refine hK _ ?_
        clear hK K
        -- region 25
        refine AWp.rseq E_ok [0, 1, 2, 3, 4, 5, 6, 7, 8, 10, 12, 14, 15, 16, 18, 19, 20, 21, 22, 23, 25, 78, 150, 151, 152, 161, 173] fun K hK => ?_
        simp [encSer_eq, encIsss_eq, encIss_eq, encInts_eq, encPat_eq, encSpns_eq, encSpn_eq, qP, sQ, sB, sD, sX, zSer, zPat, zIss, zSpn, sL_3, h78, h150, h152]
        try simp (disch := omega) only [wrap_i64]
        repeat refine ⟨by first | omega | assumption | (simp only [maxLen]; omega) | (intros; omega) | decide, ?_⟩
        refine meet.of (serial_Bind_x ⟨5, qP, 5, sL 3⟩ ⟨5, qP, 5, sX⟩ 3 50 0 (by decide) (by decide +kernel)) ?_
        simp [encSer_eq, encIsss_eq, encIss_eq, encInts_eq, encPat_eq, encSpns_eq, encSpn_eq, qP, sQ, sB, sD, sX, zSer, zPat, zIss, zSpn, sL_3, h78, h150, h152]
        try simp (disch := omega) only [wrap_i64]
        repeat refine ⟨by first | omega | assumption | (simp only [maxLen]; omega) | (intros; omega) | decide, ?_⟩
        refine hK _ ?_
        clear hK K
        -- region 26
        refine AWp.rseq E_ok [0, 1, 2, 3, 4, 5, 6, 7, 8, 10, 12, 14, 15, 16, 18, 19, 20, 21, 22, 23, 25, 78, 150, 151, 152, 161, 173] fun K hK => ?_
        simp [encSer_eq, encIsss_eq, encIss_eq, encInts_eq, encPat_eq, encSpns_eq, encSpn_eq, qP, sQ, sB, sD, sX, zSer, zPat, zIss, zSpn, sL_3, h78, h150, h152]
        try simp (disch := omega) only [wrap_i64]
        repeat refine ⟨by first | omega | assumption | (simp only [maxLen]; omega) | (intros; omega) | decide, ?_⟩
        refine meet.of (serial_Bind_x ⟨5, qP, 5, sL 3⟩ zSer 4 51 12 (by decide) (by decide +kernel)) ?_
        simp [encSer_eq, encIsss_eq, encIss_eq, encInts_eq, encPat_eq, encSpns_eq, encSpn_eq, qP, sQ, sB, sD, sX, zSer, zPat, zIss, zSpn, sL_3, h78, h150, h152]
        try simp (disch := omega) only [wrap_i64]
        repeat refine ⟨by first | omega | assumption | (simp only [maxLen]; omega) | (intros; omega) | decide, ?_⟩
        refine hK _ ?_
        clear hK K
        -- region 27
        refine AWp.rseq E_ok [0, 1, 2, 3, 4, 5, 6, 7, 8, 10, 12, 14, 15, 16, 18, 19, 20, 21, 22, 23, 25, 78, 150, 151, 152, 161, 173] fun K hK => ?_
        simp [encSer_eq, encIsss_eq, encIss_eq, encInts_eq, encPat_eq, encSpns_eq, encSpn_eq, qP, sQ, sB, sD, sX, zSer, zPat, zIss, zSpn, sL_3, h78, h150, h152]
        try simp (disch := omega) only [wrap_i64]
        repeat refine ⟨by first | omega | assumption | (simp only [maxLen]; omega) | (intros; omega) | decide, ?_⟩
        refine meet.of (serial_Right_x ⟨5, qP, 5, sX⟩ 0 (by decide) q_right) ?_
        simp [encSer_eq, encIsss_eq, encIss_eq, encInts_eq, encPat_eq, encSpns_eq, encSpn_eq, qP, sQ, sB, sD, sX, zSer, zPat, zIss, zSpn, sL_3, h78, h150, h152]
        try simp (disch := omega) only [wrap_i64]
        repeat refine ⟨by first | omega | assumption | (simp only [maxLen]; omega) | (intros; omega) | decide, ?_⟩
        refine hK _ ?_
        clear hK K
        refine AWp.ret ?_
        repeat first | refine thenN ?_ | refine thenX ?_ | refine thenR ?_ | refine blockN ?_ | refine blockR ?_ | refine blockX ?_ | refine blockM rfl ?_
        simp [RetOk, RV]
end Go.Proofs.Ytceapemkefaicaa

set_option maxRecDepth 100000
set_option linter.unusedSimpArgs false
set_option linter.unusedVariables false
namespace Pl
end Pl
namespace Go.Proofs.Ytceapemkefaicaa
open Go Ab Pl
theorem open_int : Opens Try.prog 3 (fun n => [D.int .i64 n]) (fun n => IntKind.min .i64 ≤ n ∧ n ≤ IntKind.max .i64) := Opens.int Try.underlying3
theorem openV_int : OpensV Try.prog 3 (fun n => D.int .i64 n) (fun n => IntKind.min .i64 ≤ n ∧ n ≤ IntKind.max .i64) := Opens.one open_int (cells_int' Try.underlying3)
theorem open_api_Errno : Opens Try.prog 29 (fun n => [D.int .i64 n]) (fun n => IntKind.min .i64 ≤ n ∧ n ≤ IntKind.max .i64) := Opens.int Try.underlying29
theorem openV_api_Errno : OpensV Try.prog 29 (fun n => D.int .i64 n) (fun n => IntKind.min .i64 ≤ n ∧ n ≤ IntKind.max .i64) := Opens.one open_api_Errno (cells_int' Try.underlying29)
theorem open_uint8 : Opens Try.prog 5 (fun n => [D.int .u8 n]) (fun n => IntKind.min .u8 ≤ n ∧ n ≤ IntKind.max .u8) := Opens.int Try.underlying5
theorem openV_uint8 : OpensV Try.prog 5 (fun n => D.int .u8 n) (fun n => IntKind.min .u8 ≤ n ∧ n ≤ IntKind.max .u8) := Opens.one open_uint8 (cells_int' Try.underlying5)
theorem open_uint16 : Opens Try.prog 55 (fun n => [D.int .u16 n]) (fun n => IntKind.min .u16 ≤ n ∧ n ≤ IntKind.max .u16) := Opens.int Try.underlying55
theorem openV_uint16 : OpensV Try.prog 55 (fun n => D.int .u16 n) (fun n => IntKind.min .u16 ≤ n ∧ n ≤ IntKind.max .u16) := Opens.one open_uint16 (cells_int' Try.underlying55)
theorem open_bool : Opens Try.prog 4 (fun b => [D.bool b]) (fun _ => True) := Opens.bool Try.underlying4
theorem openV_bool : OpensV Try.prog 4 (fun b => D.bool b) (fun _ => True) := Opens.one open_bool (cells_bool' Try.underlying4)
theorem open_string : Opens Try.prog 9 (fun s => [D.str s]) (fun s => s.length ≤ Go.maxLen) := Opens.str Try.underlying9
theorem openV_string : OpensV Try.prog 9 (fun s => D.str s) (fun s => s.length ≤ Go.maxLen) := Opens.one open_string (cells_str' Try.underlying9)
theorem open_s_int : Opens Try.prog 22 (fun l : List Int => [encInts l]) (fun l => l.length ≤ Go.maxLen) :=
  (Opens.slice Try.underlying22 (by kernel_rfl) (by decide) open_int (D.int .i64) (fun _ => rfl) (.int .i64 0) rfl).map id (fun _ => rfl) (fun _ h => h.2)
theorem openV_s_int : OpensV Try.prog 22 encInts (fun l => l.length ≤ Go.maxLen) := Opens.one open_s_int (cells_slice' Try.underlying22)
theorem open_a2_int : Opens Try.prog 38 (fun p : Int × Int => [D.int .i64 p.1, D.int .i64 p.2]) (fun _ => True) :=
  (Opens.arr (n := 2) Try.underlying38 (by kernel_rfl) (by kernel_rfl) open_int).mapOk (fun l => (l.getD 0 0, l.getD 1 0)) (fun l h => by obtain ⟨h1, _⟩ := h; match l, h1 with | [x0, x1], _ => rfl) (fun _ _ => trivial)
theorem openV_a2_int : OpensV Try.prog 38 (fun p : Int × Int => D.agg [D.int .i64 p.1, D.int .i64 p.2]) (fun _ => True) := Opens.aggA Try.underlying38 open_a2_int
theorem open_api_Pattern : Opens Try.prog 24 (fun c : Pat => (encPat c).cells) (fun _ => True) :=
  (Opens.struct Try.underlying24 (OpensF.cons (n := 1) rfl (by kernel_rfl) open_int (fun _ => rfl) (OpensF.cons (n := 1) rfl (by kernel_rfl) open_int (fun _ => rfl) (OpensF.cons (n := 1) rfl (by kernel_rfl) open_int (fun _ => rfl) (OpensF.cons (n := 1) rfl (by kernel_rfl) open_int (fun _ => rfl) (OpensF.cons (n := 1) rfl (by kernel_rfl) open_s_int (fun _ => rfl) (OpensF.cons (n := 1) rfl (by kernel_rfl) open_s_int (fun _ => rfl) OpensF.nil)))))) (fun _ => by kernel_rfl)).map (fun p => (⟨p.1, p.2.1, p.2.2.1, p.2.2.2.1, p.2.2.2.2.1, p.2.2.2.2.2.1⟩ : Pat)) (fun _ => rfl) (fun _ _ => trivial)
theorem openV_api_Pattern : OpensV Try.prog 24 encPat (fun _ => True) := Opens.agg Try.underlying24 open_api_Pattern
theorem open_api_Issue : Opens Try.prog 59 (fun c : Iss => (encIss c).cells) (fun _ => True) :=
  (Opens.struct Try.underlying59 (OpensF.cons (n := 1) rfl (by kernel_rfl) open_int (fun _ => rfl) (OpensF.cons (n := 1) rfl (by kernel_rfl) open_int (fun _ => rfl) (OpensF.cons (n := 1) rfl (by kernel_rfl) open_int (fun _ => rfl) (OpensF.cons (n := 1) rfl (by kernel_rfl) open_int (fun _ => rfl) (OpensF.cons (n := 1) rfl (by kernel_rfl) open_int (fun _ => rfl) (OpensF.cons (n := 1) rfl (by kernel_rfl) open_int (fun _ => rfl) OpensF.nil)))))) (fun _ => by kernel_rfl)).map (fun p => (⟨p.1, p.2.1, p.2.2.1, p.2.2.2.1, p.2.2.2.2.1, p.2.2.2.2.2.1⟩ : Iss)) (fun _ => rfl) (fun _ _ => trivial)
theorem openV_api_Issue : OpensV Try.prog 59 encIss (fun _ => True) := Opens.agg Try.underlying59 open_api_Issue
theorem open_s_api_Issue : Opens Try.prog 25 (fun l : List Iss => [encIsss l]) (fun l => l.length ≤ Go.maxLen) :=
  (Opens.slice Try.underlying25 (by kernel_rfl) (by decide) open_api_Issue encIss (fun _ => rfl) (encIss zIss) rfl).map id (fun _ => rfl) (fun _ h => h.2)
theorem openV_s_api_Issue : OpensV Try.prog 25 encIsss (fun l => l.length ≤ Go.maxLen) := Opens.one open_s_api_Issue (cells_slice' Try.underlying25)
theorem open_api_Serial : Opens Try.prog 27 (fun c : Ser => (encSer c).cells) (fun _ => True) :=
  (Opens.struct Try.underlying27 (OpensF.cons (n := 1) rfl (by kernel_rfl) open_int (fun _ => rfl) (OpensF.cons (n := 6) rfl (by kernel_rfl) open_api_Pattern (fun _ => rfl) (OpensF.cons (n := 1) rfl (by kernel_rfl) open_int (fun _ => rfl) (OpensF.cons (n := 1) rfl (by kernel_rfl) open_s_api_Issue (fun _ => rfl) OpensF.nil)))) (fun _ => by kernel_rfl)).map (fun p => (⟨p.1, p.2.1, p.2.2.1, p.2.2.2.1⟩ : Ser)) (fun _ => rfl) (fun _ _ => trivial)
theorem openV_api_Serial : OpensV Try.prog 27 encSer (fun _ => True) := Opens.agg Try.underlying27 open_api_Serial

end Go.Proofs.Ytceapemkefaicaa
