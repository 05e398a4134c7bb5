/-
  What the functions compute that the statement reaches: contracts, and the plain laws between them. Conditions stand at each theorem.
-/
import Derived.Test.YtceapemkefaicaaWalkSix
set_option linter.unusedVariables false
set_option linter.unusedSimpArgs false
/- Serials: how long things are. -/
namespace Pl
open Go Ab
set_option linter.unusedVariables false
set_option linter.unusedSimpArgs false
theorem small_ok {s : Ser} (h : smallS s = true) : s.iss.length ≤ 140 ∧ s.pat.skip.length ≤ 20 ∧ s.pat.dbl.length ≤ 20 := by
  unfold smallS at h; simp at h; omega
def LenS (s : Ser) : Prop := s.pat.skip.length ≤ 100000 ∧ s.pat.dbl.length ≤ 100000 ∧ s.iss.length ≤ 100000
theorem len_z : LenS zSer := by unfold LenS; decide
theorem len_new (r : Int) {p : Pat} (h : (0 : Nat) ≤ 140 ∧ p.skip.length ≤ 20 ∧ p.dbl.length ≤ 20) : LenS (newR r p).1 := by
  unfold newR
  split
  · exact len_z
  · split
    · exact len_z
    · unfold LenS; simp; omega
theorem len_exp {s : Ser} (d : Int) (h : s.iss.length ≤ 140 ∧ s.pat.skip.length ≤ 20 ∧ s.pat.dbl.length ≤ 20) : LenS (expR s d).1 := by
  have := list_len s.pat s.next (untilR s.pat d - s.next)
  unfold expR
  split
  · unfold LenS; simp only; omega
  · split
    · exact len_z
    · unfold LenS; simp only [List.length_append]; omega
theorem len_rec {s : Ser} (v n it : Int) (h : s.iss.length ≤ 140 ∧ s.pat.skip.length ≤ 20 ∧ s.pat.dbl.length ≤ 20) : LenS (recR s v n it).1 := by
  unfold recR
  split
  · exact len_z
  · split
    · exact len_z
    · split
      · exact len_z
      · unfold LenS; simp only [List.length_set]; omega
theorem len_miss {s : Ser} (v n : Int) (h : s.iss.length ≤ 140 ∧ s.pat.skip.length ≤ 20 ∧ s.pat.dbl.length ≤ 20) : LenS (missR s v n).1 := by
  unfold missR
  split
  · exact len_z
  · split
    · exact len_z
    · unfold LenS; simp only [List.length_set]; omega
theorem len_claim {s : Ser} (d w : Int) (h : s.iss.length ≤ 140 ∧ s.pat.skip.length ≤ 20 ∧ s.pat.dbl.length ≤ 20) : LenS (claimR s d w).1 := by
  unfold claimR LenS; simp only [List.length_map]; omega
theorem len_claim2 {s : Ser} (d w : Int) (h : s.iss.length ≤ 140 ∧ s.pat.skip.length ≤ 20 ∧ s.pat.dbl.length ≤ 20) : (claimR s d w).2.length ≤ 100000 := by
  have := lateIx_len d w s.iss 0
  unfold claimR; simp only; omega
theorem len_bind {s : Ser} (v it : Int) (h : s.iss.length ≤ 140 ∧ s.pat.skip.length ≤ 20 ∧ s.pat.dbl.length ≤ 20) : LenS (bindR s v it).1 := by
  unfold bindR
  split
  · exact len_z
  · split
    · exact len_z
    · split
      · exact len_z
      · unfold LenS; simp only [List.length_map]; omega
theorem SerOk.free {s : Ser} (h : SerOk s) {x : Iss} (hx : x ∈ s.iss) (hs : x.st = 1 ∨ x.st = 3) : x.item = 0 := by
  obtain ⟨i, hi⟩ := List.getElem?_of_mem hx
  have := h.iss hi; omega
theorem iss_rec {s : Ser} (v n it : Int) (h : s.iss.length ≤ 1000) : (recR s v n it).1.iss.length ≤ 1000 := by
  unfold recR
  split
  · exact Nat.zero_le _
  · split
    · exact Nat.zero_le _
    · split
      · exact Nat.zero_le _
      · simp only [List.length_set]; exact h
theorem iss_miss {s : Ser} (v n : Int) (h : s.iss.length ≤ 1000) : (missR s v n).1.iss.length ≤ 1000 := by
  unfold missR
  split
  · exact Nat.zero_le _
  · split
    · exact Nat.zero_le _
    · simp only [List.length_set]; exact h
theorem iss_bind {s : Ser} (v it : Int) (h : s.iss.length ≤ 1000) : (bindR s v it).1.iss.length ≤ 1000 := by
  unfold bindR
  split
  · exact Nat.zero_le _
  · split
    · exact Nat.zero_le _
    · split
      · exact Nat.zero_le _
      · simp only [List.length_map]; exact h
theorem iss_claim {s : Ser} (d w : Int) (h : s.iss.length ≤ 1000) : (claimR s d w).1.iss.length ≤ 1000 := by
  unfold claimR; simp only [List.length_map]; exact h
theorem claim_again (s : Ser) (d w : Int) : (claimR (claimR s d w).1 d w).2 = [] := late_none _ _
/-- a loop that finds no fault -/
def trU {α : Type} : Unit → List α → Bool
  | _, [] => true
  | _, _ :: l => trU () l
def FndC (v n : Int) (x : Iss) : Prop := (x.vol = v ∧ (x.num = n ∨ x.num ≤ n ∧ n ≤ x.last)) ∧ (x.st = 2 ∨ x.st = 4)
instance (v n : Int) (x : Iss) : Decidable (FndC v n x) := by unfold FndC; infer_instance
def fndB (v n : Int) : Bool → List Iss → Bool
  | b, [] => b
  | b, x :: l => fndB v n (b || decide (FndC v n x)) l
theorem fndB_true (v n : Int) : ∀ l : List Iss, fndB v n true l = true
  | [] => rfl
  | x :: l => by unfold fndB; rw [Bool.true_or]; exact fndB_true v n l
theorem fndB_mem {v n : Int} : ∀ {l : List Iss} (b : Bool) {y : Iss}, y ∈ l → FndC v n y → fndB v n b l = true
  | x :: l, b, y, hy, hf => by
    unfold fndB
    rcases List.mem_cons.1 hy with rfl | hy
    · rw [decide_eq_true hf, Bool.or_true]; exact fndB_true v n l
    · exact fndB_mem _ hy hf
theorem held_fnd {s : Ser} (h : SerOk s) {v n : Int} (hv : heldB s.iss s.pat.per v = true) (h1 : 1 ≤ n) (h2 : n ≤ s.pat.per) : fndB v n false s.iss = true := by
  obtain ⟨y, hy, hn, hs⟩ := held_num h hv h1 h2
  exact fndB_mem false hy ⟨hn, hs⟩
theorem gap_len : ∀ (l : List Iss) (i : Int), (gapF i l).length ≤ l.length
  | [], _ => by simp [gapF]
  | x :: l, i => by
    have := gap_len l (i + 1)
    unfold gapF
    split
    · simp only [List.length_cons]; omega
    · simp only [List.length_cons]; omega
theorem len_gaps {s : Ser} (h : SerOk s) : (gapsR s).length ≤ 100000 := by have := gap_len s.iss 0; have := h.len; unfold gapsR; omega
theorem addS_len (o : List Spn) (v : Int) : (addS o v).length ≤ o.length + 1 := by
  unfold addS
  split
  · split
    · simp <;> omega
    · simp
  · simp
theorem hld_len (l : List Iss) (per : Int) : ∀ (r : List Iss) (i : Nat) (o : List Spn), (hldF l per (i, o) r).length ≤ o.length + r.length
  | [], i, o => by simp [hldF]
  | x :: r, i, o => by
    rw [hldF_go]
    split
    · have := hld_len l per r (i + 1) o; simp only [List.length_cons]; omega
    · have := hld_len l per r (i + 1) (addS o x.vol); have := addS_len o x.vol; simp only [List.length_cons]; omega
theorem len_held {s : Ser} (h : SerOk s) : (heldR s).length ≤ 100000 := by have h1 := hld_len s.iss s.pat.per s.iss 0 []; have h2 := h.len; unfold heldR; rw [List.length_nil] at h1; omega
end Pl

set_option maxRecDepth 100000
set_option linter.unusedSimpArgs false
set_option linter.unusedVariables false
namespace Go.Proofs.Ytceapemkefaicaa
open Go Ab Pl
theorem ref37_Small (s : Ser) : ACalls E.P 14 [encSer s] (.d (.bool (smallS s))) := by
  refine ACalls.intro E_ok Try.func14 rfl rfl Try.ntmps14 Try.results14 (Nat.le_of_ble_eq_true rfl) fun hok base S0 w0 => ?_
  -- region 0
  refine AWp.rseq E_ok [0, 1, 2] fun K hK => ?_
  simp [encSer_eq, encIsss_eq, encInts_eq]
  repeat refine ⟨by first | omega | assumption | (simp only [maxLen]; omega) | (intros; omega) | decide, ?_⟩
  refine hK _ ?_
  clear hK K
  -- region 1
  refine AWp.rseq E_ok [0, 1, 2] fun K hK => ?_
  simp [encSer_eq, encIsss_eq, encInts_eq]
  repeat refine ⟨by first | omega | assumption | (simp only [maxLen]; omega) | (intros; omega) | decide, ?_⟩
  refine hK _ ?_
  clear hK K
  refine AWp.ret ?_
  repeat first | refine thenN ?_ | refine thenX ?_ | refine thenR ?_ | refine blockN ?_ | refine blockR ?_ | refine blockX ?_ | refine blockM rfl ?_
  simp [RetOk, RV, smallS]; rw [Bool.eq_iff_iff]; simp; omega
end Go.Proofs.Ytceapemkefaicaa

set_option maxRecDepth 100000
set_option linter.unusedSimpArgs false
set_option linter.unusedVariables false
namespace Go.Proofs.Ytceapemkefaicaa
open Go Ab Pl
theorem ref36_months (l : List Int) : ACalls E.P 66 [encInts l] (.d (.int .i64 (monR l))) := by
  refine ACalls.intro E_ok Try.func66 rfl rfl Try.ntmps66 Try.results66 (Nat.le_of_ble_eq_true rfl) fun hok base S0 w0 => ?_
  have hl : l.length ≤ 9223372036854775807 := by have := (Ok_slice (hok (encInts l) (by simp))).1; simpa using this
  -- region 0
  refine AWp.rseq E_ok [0, 2, 3, 4, 8, 22, 26, 38] fun K hK => ?_
  simp [encInts_eq]
  try simp (disch := omega) only [wrap_i64]
  repeat refine ⟨by first | omega | assumption | (simp only [maxLen]; omega) | (intros; omega) | decide, ?_⟩
  refine hK _ ?_
  clear hK K
  refine AWp.seq ?_
  -- region 1
  refine AWp.rseq E_ok [0, 2, 3, 4, 8, 22, 26, 38] fun K hK => ?_
  simp [encInts_eq]
  try simp (disch := omega) only [wrap_i64]
  repeat refine ⟨by first | omega | assumption | (simp only [maxLen]; omega) | (intros; omega) | decide, ?_⟩
  refine hK _ ?_
  clear hK K
  refine AWp.block ?_
  refine AWp.range (l := l) (F := badMo) (tot := badMo () l) (fun k y => match y with | () => True) (fun k y => match y with | () => [(0, T.val ((D.int IntKind.i64 0).slice (List.map (D.int IntKind.i64) l))), (3, T.val (.int .i64 k))]) () ?_ rfl ?_ ?_
  · simp [Weak, TW, encInts_eq]
  · first | exact trivial | (simp; omega) | simp
  rintro k ⟨⟩ hk hs hi
  try simp only at hi
  refine AWp.seq ?_
  -- region 2
  refine AWp.rseq E_ok [0, 2, 3, 4, 8, 22, 26, 38] fun K hK => ?_
  simp [encInts_eq]
  try simp (disch := omega) only [wrap_i64]
  repeat refine ⟨by first | omega | assumption | (simp only [maxLen]; omega) | (intros; omega) | decide, ?_⟩
  refine hK _ ?_
  clear hK K
  refine AWp.cond rfl (fun h8 => ?_) (fun h8 => ?_)
  · try simp at h8
    obtain ⟨x, hx, hxx, hd⟩ := at_indexG (l := l) h8
    rw [hd] at hs
    refine AWp.skip ?_
    repeat first | refine thenN ?_ | refine thenX ?_ | refine thenR ?_ | refine blockN ?_ | refine blockR ?_ | refine blockX ?_ | refine blockM rfl ?_
    refine AWp.seq ?_
    refine AWp.block ?_
    -- region 4
    refine AWp.rseq E_ok [0, 2, 3, 4, 8, 22, 26, 38] fun K hK => ?_
    simp [encInts_eq, h8, hx, hxx]
    try simp (disch := omega) only [wrap_i64]
    repeat refine ⟨by first | omega | assumption | (simp only [maxLen]; omega) | (intros; omega) | decide, ?_⟩
    refine hK _ ?_
    clear hK K
    refine AWp.cond rfl (fun h22 => ?_) (fun h22 => ?_)
    · try simp at h22
      have hb := mon_bad (l := l) (by rw [← hs]; exact if_pos (by omega))
      rw [badMo, if_pos (by omega)] at hs
      -- region 5
      refine AWp.rseq E_ok [0, 2, 3, 4, 8, 22, 26, 38] fun K hK => ?_
      simp [encInts_eq, h8, hx, hxx]
      try simp (disch := omega) only [wrap_i64]
      repeat refine ⟨by first | omega | assumption | (simp only [maxLen]; omega) | (intros; omega) | decide, ?_⟩
      refine hK _ ?_
      clear hK K
      refine AWp.ret ?_
      repeat first | refine thenN ?_ | refine thenX ?_ | refine thenR ?_ | refine blockN ?_ | refine blockR ?_ | refine blockX ?_ | refine blockM rfl ?_
      simp [RetOk, RV, hb]
    · try simp at h22
      rw [badMo, if_neg (by omega)] at hs
      refine AWp.skip ?_
      repeat first | refine thenN ?_ | refine thenX ?_ | refine thenR ?_ | refine blockN ?_ | refine blockR ?_ | refine blockX ?_ | refine blockM rfl ?_
      -- region 3
      refine AWp.rend E_ok [0, 2, 3, 4, 8, 22, 26, 38] fun K hK => ?_
      simp [encInts_eq, h8, hx, hxx]
      try simp (disch := omega) only [wrap_i64]
      repeat refine ⟨by first | omega | assumption | (simp only [maxLen]; omega) | (intros; omega) | decide, ?_⟩
      refine hK _ ?_
      clear hK K
      repeat first | refine thenN ?_ | refine thenX ?_ | refine thenR ?_ | refine blockN ?_ | refine blockR ?_ | refine blockX ?_ | refine blockM rfl ?_
      have hw : IntKind.i64.wrap ((k : Int) + 1) = (k : Int) + 1 := by rw [wrap_i64] <;> omega
      skip
      refine ⟨_, h8, hs, ?_, ?_⟩
      · first | exact trivial | (simp; omega) | simp
      · simp [Weak, TW, hw, encInts_eq]
  · try simp at h8
    obtain rfl : k = l.length := by omega
    simp [badMo] at hs
    refine AWp.exit ?_
    repeat first | refine thenN ?_ | refine thenX ?_ | refine thenR ?_ | refine blockN ?_ | refine blockR ?_ | refine blockX ?_ | refine blockM rfl ?_
    refine AWp.seq ?_
    -- region 6
    refine AWp.rseq E_ok [0, 2, 3, 4, 8, 22, 26, 38] fun K hK => ?_
    simp [encInts_eq, h8]
    try simp (disch := omega) only [wrap_i64]
    repeat refine ⟨by first | omega | assumption | (simp only [maxLen]; omega) | (intros; omega) | decide, ?_⟩
    refine hK _ ?_
    clear hK K
    refine AWp.block ?_
    refine AWp.loop (ι := { i : Nat // 1 ≤ i ∧ (i ≤ l.length ∨ i = 1) ∧ twMo (l.drop (i - 1)) = twMo l }) (fun x => match x with | ⟨i, hi, hi2, htw⟩ => [(0, T.val ((D.int IntKind.i64 0).slice (List.map (D.int IntKind.i64) l))), (4, T.val (.int .i64 i))]) (fun x => match x with | ⟨i, hi, hi2, htw⟩ => l.length + 1 - i) ⟨1, by omega, by omega, rfl⟩ ?_ ?_
    · simp [Weak, TW, encInts_eq]
    rintro ⟨i, hi, hi2, htw⟩
    simp only
    try simp only at hi
    try simp only at hi2
    try simp only at htw
    refine AWp.seq ?_
    -- region 7
    refine AWp.rseq E_ok [0, 2, 3, 4, 8, 22, 26, 38] fun K hK => ?_
    simp [encInts_eq, h8]
    try simp (disch := omega) only [wrap_i64]
    repeat refine ⟨by first | omega | assumption | (simp only [maxLen]; omega) | (intros; omega) | decide, ?_⟩
    refine hK _ ?_
    clear hK K
    refine AWp.cond rfl (fun h26 => ?_) (fun h26 => ?_)
    · try simp at h26
      obtain ⟨j, rfl⟩ : ∃ j, i = j + 1 := ⟨i - 1, by omega⟩
      obtain ⟨x, hx1, hx2, _⟩ := at_indexG (l := l) (k := j + 1) (by omega)
      obtain ⟨y, hy1, hy2, _⟩ := at_indexG (l := l) (k := j) (by omega)
      have hst := tw_step hy1 hx1
      have hj0 : IntKind.i64.wrap ((j : Int) + 1 - 1) = (j : Int) := by rw [wrap_i64] <;> omega
      have hj1 : j < l.length := by omega
      refine AWp.skip ?_
      repeat first | refine thenN ?_ | refine thenX ?_ | refine thenR ?_ | refine blockN ?_ | refine blockR ?_ | refine blockX ?_ | refine blockM rfl ?_
      refine AWp.seq ?_
      refine AWp.block ?_
      -- region 9
      refine AWp.rseqQ E_ok mixed [0, 2, 3, 4, 8, 22, 26, 38] (by kernel_rfl) fun K hK => ?_
      simp [encInts_eq, h8, h26, hx1, hx2, hy1, hy2, hj0, hj1]
      try simp (disch := omega) only [wrap_i64]
      repeat refine ⟨by first | omega | assumption | (simp only [maxLen]; omega) | (intros; omega) | decide, ?_⟩
      refine hK _ ?_
      clear hK K
      refine AWp.cond rfl (fun h38 => ?_) (fun h38 => ?_)
      · try simp at h38
        simp only [hy1, Option.getD_some] at h38
        have hb := mon_tw hs (htw ▸ (by rw [show j + 1 - 1 = j by omega, hst, if_pos (by omega)]))
        -- region 10
        refine AWp.rseq E_ok [0, 2, 3, 4, 8, 22, 26, 38] fun K hK => ?_
        simp [encInts_eq, h8, h26, hx1, hx2, hy1, hy2, hj0, hj1]
        try simp (disch := omega) only [wrap_i64]
        repeat refine ⟨by first | omega | assumption | (simp only [maxLen]; omega) | (intros; omega) | decide, ?_⟩
        refine hK _ ?_
        clear hK K
        refine AWp.ret ?_
        repeat first | refine thenN ?_ | refine thenX ?_ | refine thenR ?_ | refine blockN ?_ | refine blockR ?_ | refine blockX ?_ | refine blockM rfl ?_
        simp [RetOk, RV, hb]
      · try simp at h38
        simp only [hy1, Option.getD_some] at h38
        rw [show j + 1 - 1 = j by omega, hst, if_neg (by omega)] at htw
        refine AWp.skip ?_
        repeat first | refine thenN ?_ | refine thenX ?_ | refine thenR ?_ | refine blockN ?_ | refine blockR ?_ | refine blockX ?_ | refine blockM rfl ?_
        -- region 8
        refine AWp.rend E_ok [0, 2, 3, 4, 8, 22, 26, 38] fun K hK => ?_
        simp [encInts_eq, h8, h26, hx1, hx2, hy1, hy2, hj0, hj1]
        try simp (disch := omega) only [wrap_i64]
        repeat refine ⟨by first | omega | assumption | (simp only [maxLen]; omega) | (intros; omega) | decide, ?_⟩
        refine hK _ ?_
        clear hK K
        repeat first | refine thenN ?_ | refine thenX ?_ | refine thenR ?_ | refine blockN ?_ | refine blockR ?_ | refine blockX ?_ | refine blockM rfl ?_
        refine ⟨⟨j + 1 + 1, by omega, by omega, by rw [← htw]; rfl⟩, ?_, by simp only; omega⟩
        simp [Weak, TW]
    · try simp at h26
      have hb := mon_ok hs (htw ▸ tw_end (l := l) (i := i) (by omega))
      refine AWp.exit ?_
      repeat first | refine thenN ?_ | refine thenX ?_ | refine thenR ?_ | refine blockN ?_ | refine blockR ?_ | refine blockX ?_ | refine blockM rfl ?_
      -- region 11
      refine AWp.rseq E_ok [0, 2, 3, 4, 8, 22, 26, 38] fun K hK => ?_
      simp [encInts_eq, h8, h26]
      try simp (disch := omega) only [wrap_i64]
      repeat refine ⟨by first | omega | assumption | (simp only [maxLen]; omega) | (intros; omega) | decide, ?_⟩
      refine hK _ ?_
      clear hK K
      refine AWp.ret ?_
      repeat first | refine thenN ?_ | refine thenX ?_ | refine thenR ?_ | refine blockN ?_ | refine blockR ?_ | refine blockX ?_ | refine blockM rfl ?_
      simp [RetOk, RV, hb]
end Go.Proofs.Ytceapemkefaicaa

set_option maxRecDepth 100000
set_option linter.unusedSimpArgs false
set_option linter.unusedVariables false
namespace Go.Proofs.Ytceapemkefaicaa
open Go Ab Pl
theorem ref36_in (l : List Int) (v : Int) : ACalls E.P 67 [encInts l, .int .i64 v] (.d (.bool (l.contains v))) := by
  refine ACalls.intro E_ok Try.func67 rfl rfl Try.ntmps67 Try.results67 (Nat.le_of_ble_eq_true rfl) fun hok base S0 w0 => ?_
  have hl : l.length ≤ 9223372036854775807 := by have := (Ok_slice (hok (encInts l) (by simp))).1; simpa using this
  -- region 0
  refine AWp.rseq E_ok [0, 1, 4, 5, 9, 17] fun K hK => ?_
  simp [encInts_eq]
  repeat refine ⟨by first | omega | assumption | (simp only [maxLen]; omega) | (intros; omega) | decide, ?_⟩
  refine hK _ ?_
  clear hK K
  refine AWp.seq ?_
  -- region 1
  refine AWp.rseq E_ok [0, 1, 4, 5, 9, 17] fun K hK => ?_
  simp [encInts_eq]
  repeat refine ⟨by first | omega | assumption | (simp only [maxLen]; omega) | (intros; omega) | decide, ?_⟩
  refine hK _ ?_
  clear hK K
  refine AWp.block ?_
  refine AWp.range (l := l) (F := hasF v) (tot := hasF v () l) (fun k y => match y with | () => True) (fun k y => match y with | () => [(0, T.val ((D.int IntKind.i64 0).slice (List.map (D.int IntKind.i64) l))), (1, T.val (D.int IntKind.i64 v)), (5, T.val (.int .i64 k))]) () ?_ rfl ?_ ?_
  · simp [Weak, TW, encInts_eq]
  · first | exact trivial | (simp; omega) | simp
  rintro k ⟨⟩ hk hs hi
  try simp only at hi
  refine AWp.seq ?_
  -- region 2
  refine AWp.rseq E_ok [0, 1, 4, 5, 9, 17] fun K hK => ?_
  simp [encInts_eq]
  repeat refine ⟨by first | omega | assumption | (simp only [maxLen]; omega) | (intros; omega) | decide, ?_⟩
  refine hK _ ?_
  clear hK K
  refine AWp.cond rfl (fun h9 => ?_) (fun h9 => ?_)
  · try simp at h9
    obtain ⟨x, hx, hxx, hd⟩ := at_indexG (l := l) h9
    rw [hd] at hs
    refine AWp.skip ?_
    repeat first | refine thenN ?_ | refine thenX ?_ | refine thenR ?_ | refine blockN ?_ | refine blockR ?_ | refine blockX ?_ | refine blockM rfl ?_
    refine AWp.seq ?_
    refine AWp.block ?_
    -- region 4
    refine AWp.rseq E_ok [0, 1, 4, 5, 9, 17] fun K hK => ?_
    simp [encInts_eq, h9, hx, hxx]
    repeat refine ⟨by first | omega | assumption | (simp only [maxLen]; omega) | (intros; omega) | decide, ?_⟩
    refine hK _ ?_
    clear hK K
    refine AWp.cond rfl (fun h17 => ?_) (fun h17 => ?_)
    · try simp at h17
      -- region 5
      refine AWp.rseq E_ok [0, 1, 4, 5, 9, 17] fun K hK => ?_
      simp [encInts_eq, h9, hx, hxx, h17]
      repeat refine ⟨by first | omega | assumption | (simp only [maxLen]; omega) | (intros; omega) | decide, ?_⟩
      refine hK _ ?_
      clear hK K
      refine AWp.ret ?_
      repeat first | refine thenN ?_ | refine thenX ?_ | refine thenR ?_ | refine blockN ?_ | refine blockR ?_ | refine blockX ?_ | refine blockM rfl ?_
      simp [hasF, h17] at hs
      rw [← hasF_eq]; first | (simp [RetOk, RV, ← hs]; done) | (simp [RetOk, RV, ← hs, h17])
    · try simp at h17
      refine AWp.skip ?_
      repeat first | refine thenN ?_ | refine thenX ?_ | refine thenR ?_ | refine blockN ?_ | refine blockR ?_ | refine blockX ?_ | refine blockM rfl ?_
      -- region 3
      refine AWp.rend E_ok [0, 1, 4, 5, 9, 17] fun K hK => ?_
      simp [encInts_eq, h9, hx, hxx, h17]
      repeat refine ⟨by first | omega | assumption | (simp only [maxLen]; omega) | (intros; omega) | decide, ?_⟩
      refine hK _ ?_
      clear hK K
      repeat first | refine thenN ?_ | refine thenX ?_ | refine thenR ?_ | refine blockN ?_ | refine blockR ?_ | refine blockX ?_ | refine blockM rfl ?_
      have hw : IntKind.i64.wrap ((k : Int) + 1) = (k : Int) + 1 := by rw [wrap_i64] <;> omega
      simp [hasF, h17] at hs
      refine ⟨_, h9, hs, ?_, ?_⟩
      · first | exact trivial | (simp; omega) | simp
      · simp [Weak, TW, hw, encInts_eq]
  · try simp at h9
    obtain rfl : k = l.length := by omega
    simp [hasF] at hs
    refine AWp.exit ?_
    repeat first | refine thenN ?_ | refine thenX ?_ | refine thenR ?_ | refine blockN ?_ | refine blockR ?_ | refine blockX ?_ | refine blockM rfl ?_
    -- region 6
    refine AWp.rseq E_ok [0, 1, 4, 5, 9, 17] fun K hK => ?_
    simp [encInts_eq, h9]
    repeat refine ⟨by first | omega | assumption | (simp only [maxLen]; omega) | (intros; omega) | decide, ?_⟩
    refine hK _ ?_
    clear hK K
    refine AWp.ret ?_
    repeat first | refine thenN ?_ | refine thenX ?_ | refine thenR ?_ | refine blockN ?_ | refine blockR ?_ | refine blockX ?_ | refine blockM rfl ?_
    rw [← hasF_eq]; first | (simp [RetOk, RV, ← hs]; done) | (simp [RetOk, RV, ← hs, h17])
end Go.Proofs.Ytceapemkefaicaa

set_option maxRecDepth 100000
set_option linter.unusedSimpArgs false
set_option linter.unusedVariables false
namespace Go.Proofs.Ytceapemkefaicaa
open Go Ab Pl
theorem ref36_Right (p : Pat) : ACalls E.P 45 [encPat p] (.d (.int .i64 (patR p))) := by
  refine ACalls.intro E_ok Try.func45 rfl rfl Try.ntmps45 Try.results45 (Nat.le_of_ble_eq_true rfl) fun hok base S0 w0 => ?_
  have hl2 : p.dbl.length ≤ 9223372036854775807 := by have := Ok_agg (hok (encPat p) (by simp)) (encInts p.dbl) (by simp); have := (Ok_slice this).1; simpa using this
  -- region 0
  refine AWp.rseq E_ok [0, 1, 2, 3, 4, 32, 40, 45, 51, 72, 81, 86, 96] fun K hK => ?_
  simp [encPat_eq, encInts_eq]
  repeat refine ⟨by first | omega | assumption | (simp only [maxLen]; omega) | (intros; omega) | decide, ?_⟩
  refine hK _ ?_
  clear hK K
  refine AWp.seq ?_
  -- region 1
  refine AWp.rseq E_ok [0, 1, 2, 3, 4, 32, 40, 45, 51, 72, 81, 86, 96] fun K hK => ?_
  simp [encPat_eq, encInts_eq]
  repeat refine ⟨by first | omega | assumption | (simp only [maxLen]; omega) | (intros; omega) | decide, ?_⟩
  refine hK _ ?_
  clear hK K
  refine AWp.cond rfl (fun h32 => ?_) (fun h32 => ?_)
  · try simp at h32
    have hb : patR p = 2 := if_pos (by omega)
    -- region 2
    refine AWp.rseq E_ok [0, 1, 2, 3, 4, 32, 40, 45, 51, 72, 81, 86, 96] fun K hK => ?_
    simp [encPat_eq, encInts_eq]
    repeat refine ⟨by first | omega | assumption | (simp only [maxLen]; omega) | (intros; omega) | decide, ?_⟩
    refine hK _ ?_
    clear hK K
    refine AWp.ret ?_
    repeat first | refine thenN ?_ | refine thenX ?_ | refine thenR ?_ | refine blockN ?_ | refine blockR ?_ | refine blockX ?_ | refine blockM rfl ?_
    simp [RetOk, RV, hb]
  · try simp at h32
    refine AWp.skip ?_
    repeat first | refine thenN ?_ | refine thenX ?_ | refine thenR ?_ | refine blockN ?_ | refine blockR ?_ | refine blockX ?_ | refine blockM rfl ?_
    refine AWp.seq ?_
    -- region 3
    refine AWp.rseq E_ok [0, 1, 2, 3, 4, 32, 40, 45, 51, 72, 81, 86, 96] fun K hK => ?_
    simp [encPat_eq, encInts_eq]
    repeat refine ⟨by first | omega | assumption | (simp only [maxLen]; omega) | (intros; omega) | decide, ?_⟩
    refine hK _ ?_
    clear hK K
    refine AWp.cond rfl (fun h40 => ?_) (fun h40 => ?_)
    · try simp at h40
      have hb : patR p = 1 := by unfold patR; rw [if_neg (by omega), if_pos (by omega)]
      -- region 4
      refine AWp.rseq E_ok [0, 1, 2, 3, 4, 32, 40, 45, 51, 72, 81, 86, 96] fun K hK => ?_
      simp [encPat_eq, encInts_eq]
      repeat refine ⟨by first | omega | assumption | (simp only [maxLen]; omega) | (intros; omega) | decide, ?_⟩
      refine hK _ ?_
      clear hK K
      refine AWp.ret ?_
      repeat first | refine thenN ?_ | refine thenX ?_ | refine thenR ?_ | refine blockN ?_ | refine blockR ?_ | refine blockX ?_ | refine blockM rfl ?_
      simp [RetOk, RV, hb]
    · try simp at h40
      refine AWp.skip ?_
      repeat first | refine thenN ?_ | refine thenX ?_ | refine thenR ?_ | refine blockN ?_ | refine blockR ?_ | refine blockX ?_ | refine blockM rfl ?_
      -- region 5
      refine AWp.rseq E_ok [0, 1, 2, 3, 4, 32, 40, 45, 51, 72, 81, 86, 96] fun K hK => ?_
      simp [encPat_eq, encInts_eq]
      repeat refine ⟨by first | omega | assumption | (simp only [maxLen]; omega) | (intros; omega) | decide, ?_⟩
      refine meet.of (ref36_months p.skip) ?_
      simp [encPat_eq, encInts_eq]
      repeat refine ⟨by first | omega | assumption | (simp only [maxLen]; omega) | (intros; omega) | decide, ?_⟩
      refine hK _ ?_
      clear hK K
      refine AWp.seq ?_
      -- region 6
      refine AWp.rseq E_ok [0, 1, 2, 3, 4, 32, 40, 45, 51, 72, 81, 86, 96] fun K hK => ?_
      simp [encPat_eq, encInts_eq]
      repeat refine ⟨by first | omega | assumption | (simp only [maxLen]; omega) | (intros; omega) | decide, ?_⟩
      refine hK _ ?_
      clear hK K
      refine AWp.cond rfl (fun h45 => ?_) (fun h45 => ?_)
      · try simp at h45
        have hb : patR p = monR p.skip := by unfold patR; rw [if_neg (by omega), if_neg (by omega), if_pos h45]
        -- region 7
        refine AWp.rseq E_ok [0, 1, 2, 3, 4, 32, 40, 45, 51, 72, 81, 86, 96] fun K hK => ?_
        simp [encPat_eq, encInts_eq]
        repeat refine ⟨by first | omega | assumption | (simp only [maxLen]; omega) | (intros; omega) | decide, ?_⟩
        refine hK _ ?_
        clear hK K
        refine AWp.ret ?_
        repeat first | refine thenN ?_ | refine thenX ?_ | refine thenR ?_ | refine blockN ?_ | refine blockR ?_ | refine blockX ?_ | refine blockM rfl ?_
        simp [RetOk, RV, hb]
      · try simp at h45
        refine AWp.skip ?_
        repeat first | refine thenN ?_ | refine thenX ?_ | refine thenR ?_ | refine blockN ?_ | refine blockR ?_ | refine blockX ?_ | refine blockM rfl ?_
        -- region 8
        refine AWp.rseq E_ok [0, 1, 2, 3, 4, 32, 40, 45, 51, 72, 81, 86, 96] fun K hK => ?_
        simp [encPat_eq, encInts_eq]
        repeat refine ⟨by first | omega | assumption | (simp only [maxLen]; omega) | (intros; omega) | decide, ?_⟩
        refine meet.of (ref36_months p.dbl) ?_
        simp [encPat_eq, encInts_eq]
        repeat refine ⟨by first | omega | assumption | (simp only [maxLen]; omega) | (intros; omega) | decide, ?_⟩
        refine hK _ ?_
        clear hK K
        refine AWp.seq ?_
        -- region 9
        refine AWp.rseq E_ok [0, 1, 2, 3, 4, 32, 40, 45, 51, 72, 81, 86, 96] fun K hK => ?_
        simp [encPat_eq, encInts_eq]
        repeat refine ⟨by first | omega | assumption | (simp only [maxLen]; omega) | (intros; omega) | decide, ?_⟩
        refine hK _ ?_
        clear hK K
        refine AWp.cond rfl (fun h51 => ?_) (fun h51 => ?_)
        · try simp at h51
          have hb : patR p = monR p.dbl := by unfold patR; rw [if_neg (by omega), if_neg (by omega), if_neg (by omega), if_pos h51]
          -- region 10
          refine AWp.rseq E_ok [0, 1, 2, 3, 4, 32, 40, 45, 51, 72, 81, 86, 96] fun K hK => ?_
          simp [encPat_eq, encInts_eq]
          repeat refine ⟨by first | omega | assumption | (simp only [maxLen]; omega) | (intros; omega) | decide, ?_⟩
          refine hK _ ?_
          clear hK K
          refine AWp.ret ?_
          repeat first | refine thenN ?_ | refine thenX ?_ | refine thenR ?_ | refine blockN ?_ | refine blockR ?_ | refine blockX ?_ | refine blockM rfl ?_
          simp [RetOk, RV, hb]
        · try simp at h51
          refine AWp.skip ?_
          repeat first | refine thenN ?_ | refine thenX ?_ | refine thenR ?_ | refine blockN ?_ | refine blockR ?_ | refine blockX ?_ | refine blockM rfl ?_
          refine AWp.seq ?_
          -- region 11
          refine AWp.rseq E_ok [0, 1, 2, 3, 4, 32, 40, 45, 51, 72, 81, 86, 96] fun K hK => ?_
          simp [encPat_eq, encInts_eq]
          repeat refine ⟨by first | omega | assumption | (simp only [maxLen]; omega) | (intros; omega) | decide, ?_⟩
          refine hK _ ?_
          clear hK K
          refine AWp.cond rfl (fun h72 => ?_) (fun h72 => ?_)
          · try simp at h72
            have hb : patR p = 1 := by unfold patR; rw [if_neg (by omega), if_neg (by omega), if_neg (by omega), if_neg (by omega), if_pos (by omega)]
            -- region 12
            refine AWp.rseq E_ok [0, 1, 2, 3, 4, 32, 40, 45, 51, 72, 81, 86, 96] fun K hK => ?_
            simp [encPat_eq, encInts_eq]
            repeat refine ⟨by first | omega | assumption | (simp only [maxLen]; omega) | (intros; omega) | decide, ?_⟩
            refine hK _ ?_
            clear hK K
            refine AWp.ret ?_
            repeat first | refine thenN ?_ | refine thenX ?_ | refine thenR ?_ | refine blockN ?_ | refine blockR ?_ | refine blockX ?_ | refine blockM rfl ?_
            simp [RetOk, RV, hb]
          · try simp at h72
            refine AWp.skip ?_
            repeat first | refine thenN ?_ | refine thenX ?_ | refine thenR ?_ | refine blockN ?_ | refine blockR ?_ | refine blockX ?_ | refine blockM rfl ?_
            refine AWp.seq ?_
            -- region 13
            refine AWp.rseq E_ok [0, 1, 2, 3, 4, 32, 40, 45, 51, 72, 81, 86, 96] fun K hK => ?_
            simp [encPat_eq, encInts_eq]
            repeat refine ⟨by first | omega | assumption | (simp only [maxLen]; omega) | (intros; omega) | decide, ?_⟩
            refine hK _ ?_
            clear hK K
            refine AWp.cond rfl (fun h81 => ?_) (fun h81 => ?_)
            · try simp at h81
              have hb : patR p = 1 := by unfold patR; rw [if_neg (by omega), if_neg (by omega), if_neg (by omega), if_neg (by omega), if_pos (by omega)]
              -- region 14
              refine AWp.rseq E_ok [0, 1, 2, 3, 4, 32, 40, 45, 51, 72, 81, 86, 96] fun K hK => ?_
              simp [encPat_eq, encInts_eq]
              repeat refine ⟨by first | omega | assumption | (simp only [maxLen]; omega) | (intros; omega) | decide, ?_⟩
              refine hK _ ?_
              clear hK K
              refine AWp.ret ?_
              repeat first | refine thenN ?_ | refine thenX ?_ | refine thenR ?_ | refine blockN ?_ | refine blockR ?_ | refine blockX ?_ | refine blockM rfl ?_
              simp [RetOk, RV, hb]
            · try simp at h81
              have hlast : patR p = if (p.dbl.any fun m => p.skip.contains m) = true then 1 else 0 := by unfold patR; rw [if_neg (by omega), if_neg (by omega), if_neg (by omega), if_neg (by omega), if_neg (by omega)]
              refine AWp.skip ?_
              repeat first | refine thenN ?_ | refine thenX ?_ | refine thenR ?_ | refine blockN ?_ | refine blockR ?_ | refine blockX ?_ | refine blockM rfl ?_
              refine AWp.seq ?_
              -- region 15
              refine AWp.rseq E_ok [0, 1, 2, 3, 4, 32, 40, 45, 51, 72, 81, 86, 96] fun K hK => ?_
              simp [encPat_eq, encInts_eq]
              repeat refine ⟨by first | omega | assumption | (simp only [maxLen]; omega) | (intros; omega) | decide, ?_⟩
              refine hK _ ?_
              clear hK K
              refine AWp.block ?_
              refine AWp.range (l := p.dbl) (F := anyMo p.skip) (tot := anyMo p.skip () p.dbl) (fun k y => match y with | () => True) (fun k y => match y with | () => [(0, T.val (D.agg [D.int IntKind.i64 p.start, D.int IntKind.i64 p.every, D.int IntKind.i64 p.per, D.int IntKind.i64 p.first, (D.int IntKind.i64 0).slice (List.map (D.int IntKind.i64) p.skip), (D.int IntKind.i64 0).slice (List.map (D.int IntKind.i64) p.dbl)])), (1, T.box [C.d (D.int IntKind.i64 p.start), C.d (D.int IntKind.i64 p.every), C.d (D.int IntKind.i64 p.per), C.d (D.int IntKind.i64 p.first), C.d ((D.int IntKind.i64 0).slice (List.map (D.int IntKind.i64) p.skip)), C.d ((D.int IntKind.i64 0).slice (List.map (D.int IntKind.i64) p.dbl))]), (4, T.val (.int .i64 k))]) () ?_ rfl ?_ ?_
              · simp [Weak, TW, encPat_eq, encInts_eq]
              · first | exact trivial | (simp; omega) | simp
              rintro k ⟨⟩ hk hs hi
              try simp only at hi
              refine AWp.seq ?_
              -- region 16
              refine AWp.rseq E_ok [0, 1, 2, 3, 4, 32, 40, 45, 51, 72, 81, 86, 96] fun K hK => ?_
              simp [encPat_eq, encInts_eq]
              repeat refine ⟨by first | omega | assumption | (simp only [maxLen]; omega) | (intros; omega) | decide, ?_⟩
              refine hK _ ?_
              clear hK K
              refine AWp.cond rfl (fun h86 => ?_) (fun h86 => ?_)
              · try simp at h86
                obtain ⟨x, hx, hxx, hd⟩ := at_indexG (l := p.dbl) h86
                rw [hd] at hs
                refine AWp.skip ?_
                repeat first | refine thenN ?_ | refine thenX ?_ | refine thenR ?_ | refine blockN ?_ | refine blockR ?_ | refine blockX ?_ | refine blockM rfl ?_
                refine AWp.seq ?_
                refine AWp.block ?_
                -- region 18
                refine AWp.rseqQ E_ok mixed [0, 1, 2, 3, 4, 32, 40, 45, 51, 72, 81, 86, 96] (by kernel_rfl) fun K hK => ?_
                simp [encPat_eq, encInts_eq, h86, hx, hxx]
                repeat refine ⟨by first | omega | assumption | (simp only [maxLen]; omega) | (intros; omega) | decide, ?_⟩
                refine meet.of (ref36_in p.skip x) ?_
                simp [encPat_eq, encInts_eq, h86, hx, hxx]
                repeat refine ⟨by first | omega | assumption | (simp only [maxLen]; omega) | (intros; omega) | decide, ?_⟩
                refine hK _ ?_
                clear hK K
                refine AWp.cond rfl (fun h96 => ?_) (fun h96 => ?_)
                · try simp at h96
                  rw [anyMo, if_pos (by simpa using h96)] at hs
                  have hb : patR p = 1 := by rw [hlast, ← anyMo_eq, ← hs]; rfl
                  -- region 19
                  refine AWp.rseq E_ok [0, 1, 2, 3, 4, 32, 40, 45, 51, 72, 81, 86, 96] fun K hK => ?_
                  simp [encPat_eq, encInts_eq, h86, hx, hxx]
                  repeat refine ⟨by first | omega | assumption | (simp only [maxLen]; omega) | (intros; omega) | decide, ?_⟩
                  refine hK _ ?_
                  clear hK K
                  refine AWp.ret ?_
                  repeat first | refine thenN ?_ | refine thenX ?_ | refine thenR ?_ | refine blockN ?_ | refine blockR ?_ | refine blockX ?_ | refine blockM rfl ?_
                  simp [RetOk, RV, hb]
                · try simp at h96
                  rw [anyMo, if_neg (by simpa using h96)] at hs
                  refine AWp.skip ?_
                  repeat first | refine thenN ?_ | refine thenX ?_ | refine thenR ?_ | refine blockN ?_ | refine blockR ?_ | refine blockX ?_ | refine blockM rfl ?_
                  -- region 17
                  refine AWp.rend E_ok [0, 1, 2, 3, 4, 32, 40, 45, 51, 72, 81, 86, 96] fun K hK => ?_
                  simp [encPat_eq, encInts_eq, h86, hx, hxx]
                  repeat refine ⟨by first | omega | assumption | (simp only [maxLen]; omega) | (intros; omega) | decide, ?_⟩
                  refine hK _ ?_
                  clear hK K
                  repeat first | refine thenN ?_ | refine thenX ?_ | refine thenR ?_ | refine blockN ?_ | refine blockR ?_ | refine blockX ?_ | refine blockM rfl ?_
                  have hw : IntKind.i64.wrap ((k : Int) + 1) = (k : Int) + 1 := by rw [wrap_i64] <;> omega
                  skip
                  refine ⟨_, h86, hs, ?_, ?_⟩
                  · first | exact trivial | (simp; omega) | simp
                  · simp [Weak, TW, hw, encPat_eq, encInts_eq]
              · try simp at h86
                obtain rfl : k = p.dbl.length := by omega
                simp [anyMo] at hs
                have hb : patR p = 0 := by rw [hlast, ← anyMo_eq]; simp [hs]
                refine AWp.exit ?_
                repeat first | refine thenN ?_ | refine thenX ?_ | refine thenR ?_ | refine blockN ?_ | refine blockR ?_ | refine blockX ?_ | refine blockM rfl ?_
                -- region 20
                refine AWp.rseq E_ok [0, 1, 2, 3, 4, 32, 40, 45, 51, 72, 81, 86, 96] fun K hK => ?_
                simp [encPat_eq, encInts_eq, h86]
                repeat refine ⟨by first | omega | assumption | (simp only [maxLen]; omega) | (intros; omega) | decide, ?_⟩
                refine hK _ ?_
                clear hK K
                refine AWp.ret ?_
                repeat first | refine thenN ?_ | refine thenX ?_ | refine thenR ?_ | refine blockN ?_ | refine blockR ?_ | refine blockX ?_ | refine blockM rfl ?_
                simp [RetOk, RV, hb]
end Go.Proofs.Ytceapemkefaicaa

set_option maxRecDepth 100000
set_option linter.unusedSimpArgs false
set_option linter.unusedVariables false
namespace Go.Proofs.Ytceapemkefaicaa
open Go Ab Pl
theorem ref37_New (r : Int) (p : Pat) : ACalls E.P 19 [.int .i64 r, encPat p] (.tup [encSer (newR r p).1, .int .i64 (newR r p).2]) := by
  refine ACalls.intro E_ok Try.func19 rfl rfl Try.ntmps19 Try.results19 (Nat.le_of_ble_eq_true rfl) fun hok base S0 w0 => ?_
  -- region 0
  refine AWp.rseq E_ok [0, 1, 3, 4, 5, 6, 12, 17] fun K hK => ?_
  simp [encPat_eq, encSer_eq]
  repeat refine ⟨by first | omega | assumption | (simp only [maxLen]; omega) | (intros; omega) | decide, ?_⟩
  refine hK _ ?_
  clear hK K
  refine AWp.seq ?_
  -- region 1
  refine AWp.rseq E_ok [0, 1, 3, 4, 5, 6, 12, 17] fun K hK => ?_
  simp [encPat_eq, encSer_eq]
  repeat refine ⟨by first | omega | assumption | (simp only [maxLen]; omega) | (intros; omega) | decide, ?_⟩
  refine hK _ ?_
  clear hK K
  refine AWp.cond rfl (fun h12 => ?_) (fun h12 => ?_)
  · try simp at h12
    have hb : newR r p = (zSer, 2) := if_pos (by omega)
    -- region 2
    refine AWp.rseq E_ok [0, 1, 3, 4, 5, 6, 12, 17] fun K hK => ?_
    simp [encPat_eq, encSer_eq]
    repeat refine ⟨by first | omega | assumption | (simp only [maxLen]; omega) | (intros; omega) | decide, ?_⟩
    refine hK _ ?_
    clear hK K
    refine AWp.ret ?_
    repeat first | refine thenN ?_ | refine thenX ?_ | refine thenR ?_ | refine blockN ?_ | refine blockR ?_ | refine blockX ?_ | refine blockM rfl ?_
    simp [RetOk, RV, RVs, hb, zSer, zPat, encSer_eq, encInts_eq, encIsss_eq, encIss_eq, zIss]
  · try simp at h12
    refine AWp.skip ?_
    repeat first | refine thenN ?_ | refine thenX ?_ | refine thenR ?_ | refine blockN ?_ | refine blockR ?_ | refine blockX ?_ | refine blockM rfl ?_
    -- region 3
    refine AWp.rseq E_ok [0, 1, 3, 4, 5, 6, 12, 17] fun K hK => ?_
    simp [encPat_eq, encSer_eq]
    repeat refine ⟨by first | omega | assumption | (simp only [maxLen]; omega) | (intros; omega) | decide, ?_⟩
    refine meet.of (ref36_Right p) ?_
    simp [encPat_eq, encSer_eq]
    repeat refine ⟨by first | omega | assumption | (simp only [maxLen]; omega) | (intros; omega) | decide, ?_⟩
    refine hK _ ?_
    clear hK K
    refine AWp.seq ?_
    -- region 4
    refine AWp.rseq E_ok [0, 1, 3, 4, 5, 6, 12, 17] fun K hK => ?_
    simp [encPat_eq, encSer_eq]
    repeat refine ⟨by first | omega | assumption | (simp only [maxLen]; omega) | (intros; omega) | decide, ?_⟩
    refine hK _ ?_
    clear hK K
    refine AWp.cond rfl (fun h17 => ?_) (fun h17 => ?_)
    · try simp at h17
      have hb : newR r p = (zSer, patR p) := by unfold newR; rw [if_neg (by omega), if_pos h17]
      -- region 5
      refine AWp.rseq E_ok [0, 1, 3, 4, 5, 6, 12, 17] fun K hK => ?_
      simp [encPat_eq, encSer_eq]
      repeat refine ⟨by first | omega | assumption | (simp only [maxLen]; omega) | (intros; omega) | decide, ?_⟩
      refine hK _ ?_
      clear hK K
      refine AWp.ret ?_
      repeat first | refine thenN ?_ | refine thenX ?_ | refine thenR ?_ | refine blockN ?_ | refine blockR ?_ | refine blockX ?_ | refine blockM rfl ?_
      simp [RetOk, RV, RVs, hb, zSer, zPat, encSer_eq, encInts_eq, encIsss_eq, encIss_eq, zIss]
    · try simp at h17
      have hb : newR r p = (⟨r, p, 0, []⟩, 0) := by unfold newR; rw [if_neg (by omega), if_neg (by omega)]
      refine AWp.skip ?_
      repeat first | refine thenN ?_ | refine thenX ?_ | refine thenR ?_ | refine blockN ?_ | refine blockR ?_ | refine blockX ?_ | refine blockM rfl ?_
      -- region 6
      refine AWp.rseq E_ok [0, 1, 3, 4, 5, 6, 12, 17] fun K hK => ?_
      simp [encPat_eq, encSer_eq]
      repeat refine ⟨by first | omega | assumption | (simp only [maxLen]; omega) | (intros; omega) | decide, ?_⟩
      refine hK _ ?_
      clear hK K
      refine AWp.ret ?_
      repeat first | refine thenN ?_ | refine thenX ?_ | refine thenR ?_ | refine blockN ?_ | refine blockR ?_ | refine blockX ?_ | refine blockM rfl ?_
      simp [RetOk, RV, RVs, hb, zSer, zPat, encSer_eq, encInts_eq, encIsss_eq, encIss_eq, zIss]
end Go.Proofs.Ytceapemkefaicaa

set_option maxRecDepth 100000
set_option linter.unusedSimpArgs false
set_option linter.unusedVariables false
namespace Go.Proofs.Ytceapemkefaicaa
open Go Ab Pl
theorem ref36_Same (a b : List Iss) (hl : a.length ≤ 100000) : ACalls E.P 41 [encIsss a, encIsss b] (.d (.bool (decide (a = b)))) := by
  refine ACalls.intro E_ok Try.func41 rfl rfl Try.ntmps41 Try.results41 (Nat.le_of_ble_eq_true rfl) fun hok base S0 w0 => ?_
  -- region 0
  refine AWp.rseq E_ok [0, 1, 4, 5, 10, 14, 25] fun K hK => ?_
  simp [encIsss_eq, encIss_eq]
  repeat refine ⟨by first | omega | assumption | (simp only [maxLen]; omega) | (intros; omega) | decide, ?_⟩
  refine hK _ ?_
  clear hK K
  refine AWp.seq ?_
  -- region 1
  refine AWp.rseq E_ok [0, 1, 4, 5, 10, 14, 25] fun K hK => ?_
  simp [encIsss_eq, encIss_eq]
  repeat refine ⟨by first | omega | assumption | (simp only [maxLen]; omega) | (intros; omega) | decide, ?_⟩
  refine hK _ ?_
  clear hK K
  refine AWp.cond rfl (fun h10 => ?_) (fun h10 => ?_)
  · try simp at h10
    have hb : decide (a = b) = false := decide_eq_false fun h => h10 (by rw [h])
    -- region 2
    refine AWp.rseq E_ok [0, 1, 4, 5, 10, 14, 25] fun K hK => ?_
    simp [encIsss_eq, encIss_eq]
    repeat refine ⟨by first | omega | assumption | (simp only [maxLen]; omega) | (intros; omega) | decide, ?_⟩
    refine hK _ ?_
    clear hK K
    refine AWp.ret ?_
    repeat first | refine thenN ?_ | refine thenX ?_ | refine thenR ?_ | refine blockN ?_ | refine blockR ?_ | refine blockX ?_ | refine blockM rfl ?_
    simp [RetOk, RV, hb]
  · try simp at h10
    have hle := samF_eq a b (by omega)
    refine AWp.skip ?_
    repeat first | refine thenN ?_ | refine thenX ?_ | refine thenR ?_ | refine blockN ?_ | refine blockR ?_ | refine blockX ?_ | refine blockM rfl ?_
    refine AWp.seq ?_
    -- region 3
    refine AWp.rseq E_ok [0, 1, 4, 5, 10, 14, 25] fun K hK => ?_
    simp [encIsss_eq, encIss_eq]
    repeat refine ⟨by first | omega | assumption | (simp only [maxLen]; omega) | (intros; omega) | decide, ?_⟩
    refine hK _ ?_
    clear hK K
    refine AWp.block ?_
    refine AWp.range (l := a) (F := samF) (tot := samF b a) (fun k y => match y with | bs => bs = b.drop k) (fun k y => match y with | bs => [(0, T.val ((D.agg [D.int IntKind.i64 zIss.vol, D.int IntKind.i64 zIss.num, D.int IntKind.i64 zIss.last, D.int IntKind.i64 zIss.day, D.int IntKind.i64 zIss.st, D.int IntKind.i64 zIss.item]).slice (List.map encIss a))), (1, T.val ((D.agg [D.int IntKind.i64 zIss.vol, D.int IntKind.i64 zIss.num, D.int IntKind.i64 zIss.last, D.int IntKind.i64 zIss.day, D.int IntKind.i64 zIss.st, D.int IntKind.i64 zIss.item]).slice (List.map encIss b))), (5, T.val (.int .i64 k))]) (b) ?_ rfl ?_ ?_
    · simp [Weak, TW, encIsss_eq, encIss_eq]
    · first | exact trivial | (simp; omega) | simp
    rintro k bs hk hs hi
    try simp only at hi
    refine AWp.seq ?_
    -- region 4
    refine AWp.rseq E_ok [0, 1, 4, 5, 10, 14, 25] fun K hK => ?_
    simp [encIsss_eq, encIss_eq]
    repeat refine ⟨by first | omega | assumption | (simp only [maxLen]; omega) | (intros; omega) | decide, ?_⟩
    refine hK _ ?_
    clear hK K
    refine AWp.cond rfl (fun h14 => ?_) (fun h14 => ?_)
    · try simp at h14
      obtain ⟨y, hy1, hy2, hyd⟩ := at_indexG (l := b) (k := k) (by omega)
      rw [hi, hyd] at hs
      obtain ⟨x, hx, hxx, hd⟩ := at_indexG (l := a) h14
      rw [hd] at hs
      refine AWp.skip ?_
      repeat first | refine thenN ?_ | refine thenX ?_ | refine thenR ?_ | refine blockN ?_ | refine blockR ?_ | refine blockX ?_ | refine blockM rfl ?_
      refine AWp.seq ?_
      refine AWp.block ?_
      -- region 6
      refine AWp.rseqQ E_ok mixed [0, 1, 4, 5, 10, 14, 25] (by kernel_rfl) fun K hK => ?_
      simp [encIsss_eq, encIss_eq, h14, hy1, hx, hxx]
      repeat refine ⟨by first | omega | assumption | (simp only [maxLen]; omega) | (intros; omega) | decide, ?_⟩
      refine hK _ ?_
      clear hK K
      refine AWp.cond rfl (fun h25 => ?_) (fun h25 => ?_)
      · try simp at h25
        have hne : ¬ x = y := by rw [iss_eq]; omega
        rw [samF, if_neg hne] at hs
        have hb : decide (a = b) = false := by rw [← hle, ← hs]
        -- region 7
        refine AWp.rseq E_ok [0, 1, 4, 5, 10, 14, 25] fun K hK => ?_
        simp [encIsss_eq, encIss_eq, h14, hy1, hx, hxx]
        repeat refine ⟨by first | omega | assumption | (simp only [maxLen]; omega) | (intros; omega) | decide, ?_⟩
        refine hK _ ?_
        clear hK K
        refine AWp.ret ?_
        repeat first | refine thenN ?_ | refine thenX ?_ | refine thenR ?_ | refine blockN ?_ | refine blockR ?_ | refine blockX ?_ | refine blockM rfl ?_
        simp [RetOk, RV, hb]
      · try simp at h25
        have hxy : x = y := (iss_eq x y).2 (by omega)
        rw [samF, if_pos hxy] at hs
        refine AWp.skip ?_
        repeat first | refine thenN ?_ | refine thenX ?_ | refine thenR ?_ | refine blockN ?_ | refine blockR ?_ | refine blockX ?_ | refine blockM rfl ?_
        -- region 5
        refine AWp.rend E_ok [0, 1, 4, 5, 10, 14, 25] fun K hK => ?_
        simp [encIsss_eq, encIss_eq, h14, hy1, hx, hxx]
        repeat refine ⟨by first | omega | assumption | (simp only [maxLen]; omega) | (intros; omega) | decide, ?_⟩
        refine hK _ ?_
        clear hK K
        repeat first | refine thenN ?_ | refine thenX ?_ | refine thenR ?_ | refine blockN ?_ | refine blockR ?_ | refine blockX ?_ | refine blockM rfl ?_
        have hw : IntKind.i64.wrap ((k : Int) + 1) = (k : Int) + 1 := by rw [wrap_i64] <;> omega
        skip
        refine ⟨_, h14, hs, ?_, ?_⟩
        · first | exact trivial | (simp; omega) | simp
        · simp [Weak, TW, hw, encIsss_eq, encIss_eq]
    · try simp at h14
      obtain rfl : k = a.length := by omega
      simp [samF] at hs
      have hb : decide (a = b) = true := by rw [← hle]; simp [hs]
      refine AWp.exit ?_
      repeat first | refine thenN ?_ | refine thenX ?_ | refine thenR ?_ | refine blockN ?_ | refine blockR ?_ | refine blockX ?_ | refine blockM rfl ?_
      -- region 8
      refine AWp.rseq E_ok [0, 1, 4, 5, 10, 14, 25] fun K hK => ?_
      simp [encIsss_eq, encIss_eq, h14]
      repeat refine ⟨by first | omega | assumption | (simp only [maxLen]; omega) | (intros; omega) | decide, ?_⟩
      refine hK _ ?_
      clear hK K
      refine AWp.ret ?_
      repeat first | refine thenN ?_ | refine thenX ?_ | refine thenR ?_ | refine blockN ?_ | refine blockR ?_ | refine blockX ?_ | refine blockM rfl ?_
      simp [RetOk, RV, hb]
end Go.Proofs.Ytceapemkefaicaa

/- Lists of integers compared. -/
namespace Pl
open Go Ab
set_option linter.unusedVariables false
set_option linter.unusedSimpArgs false
def samZ : List Int → List Int → Bool
  | _, [] => true
  | [], _ :: _ => false
  | y :: b, x :: a => if x = y then samZ b a else false
theorem samZ_eq : ∀ (a b : List Int), a.length = b.length → samZ b a = decide (a = b)
  | [], [], _ => by simp [samZ]
  | x :: a, y :: b, h => by
    rw [samZ, samZ_eq a b (by simpa using h)]
    by_cases hxy : x = y
    · subst hxy; simp
    · simp [hxy]
end Pl

set_option maxRecDepth 100000
set_option linter.unusedSimpArgs false
set_option linter.unusedVariables false
namespace Go.Proofs.Ytceapemkefaicaa
open Go Ab Pl
theorem ref37_same (a b : List Int) (hl : a.length ≤ 100000) : ACalls E.P 70 [encInts a, encInts b] (.d (.bool (decide (a = b)))) := by
  refine ACalls.intro E_ok Try.func70 rfl rfl Try.ntmps70 Try.results70 (Nat.le_of_ble_eq_true rfl) fun hok base S0 w0 => ?_
  -- region 0
  refine AWp.rseq E_ok [0, 1, 4, 5, 10, 14, 25] fun K hK => ?_
  simp [encInts_eq]
  repeat refine ⟨by first | omega | assumption | (simp only [maxLen]; omega) | (intros; omega) | decide, ?_⟩
  refine hK _ ?_
  clear hK K
  refine AWp.seq ?_
  -- region 1
  refine AWp.rseq E_ok [0, 1, 4, 5, 10, 14, 25] fun K hK => ?_
  simp [encInts_eq]
  repeat refine ⟨by first | omega | assumption | (simp only [maxLen]; omega) | (intros; omega) | decide, ?_⟩
  refine hK _ ?_
  clear hK K
  refine AWp.cond rfl (fun h10 => ?_) (fun h10 => ?_)
  · try simp at h10
    have hb : decide (a = b) = false := decide_eq_false fun h => h10 (by rw [h])
    -- region 2
    refine AWp.rseq E_ok [0, 1, 4, 5, 10, 14, 25] fun K hK => ?_
    simp [encInts_eq]
    repeat refine ⟨by first | omega | assumption | (simp only [maxLen]; omega) | (intros; omega) | decide, ?_⟩
    refine hK _ ?_
    clear hK K
    refine AWp.ret ?_
    repeat first | refine thenN ?_ | refine thenX ?_ | refine thenR ?_ | refine blockN ?_ | refine blockR ?_ | refine blockX ?_ | refine blockM rfl ?_
    simp [RetOk, RV, hb]
  · try simp at h10
    have hle := samZ_eq a b (by omega)
    refine AWp.skip ?_
    repeat first | refine thenN ?_ | refine thenX ?_ | refine thenR ?_ | refine blockN ?_ | refine blockR ?_ | refine blockX ?_ | refine blockM rfl ?_
    refine AWp.seq ?_
    -- region 3
    refine AWp.rseq E_ok [0, 1, 4, 5, 10, 14, 25] fun K hK => ?_
    simp [encInts_eq]
    repeat refine ⟨by first | omega | assumption | (simp only [maxLen]; omega) | (intros; omega) | decide, ?_⟩
    refine hK _ ?_
    clear hK K
    refine AWp.block ?_
    refine AWp.range (l := a) (F := samZ) (tot := samZ b a) (fun k y => match y with | bs => bs = b.drop k) (fun k y => match y with | bs => [(0, T.val ((D.int IntKind.i64 0).slice (List.map (D.int IntKind.i64) a))), (1, T.val ((D.int IntKind.i64 0).slice (List.map (D.int IntKind.i64) b))), (5, T.val (.int .i64 k))]) (b) ?_ rfl ?_ ?_
    · simp [Weak, TW, encInts_eq]
    · first | exact trivial | (simp; omega) | simp
    rintro k bs hk hs hi
    try simp only at hi
    refine AWp.seq ?_
    -- region 4
    refine AWp.rseq E_ok [0, 1, 4, 5, 10, 14, 25] fun K hK => ?_
    simp [encInts_eq]
    repeat refine ⟨by first | omega | assumption | (simp only [maxLen]; omega) | (intros; omega) | decide, ?_⟩
    refine hK _ ?_
    clear hK K
    refine AWp.cond rfl (fun h14 => ?_) (fun h14 => ?_)
    · try simp at h14
      obtain ⟨y, hy1, hy2, hyd⟩ := at_indexG (l := b) (k := k) (by omega)
      rw [hi, hyd] at hs
      obtain ⟨x, hx, hxx, hd⟩ := at_indexG (l := a) h14
      rw [hd] at hs
      refine AWp.skip ?_
      repeat first | refine thenN ?_ | refine thenX ?_ | refine thenR ?_ | refine blockN ?_ | refine blockR ?_ | refine blockX ?_ | refine blockM rfl ?_
      refine AWp.seq ?_
      refine AWp.block ?_
      -- region 6
      refine AWp.rseqQ E_ok mixed [0, 1, 4, 5, 10, 14, 25] (by kernel_rfl) fun K hK => ?_
      simp [encInts_eq, h14, hy1, hx, hxx]
      repeat refine ⟨by first | omega | assumption | (simp only [maxLen]; omega) | (intros; omega) | decide, ?_⟩
      refine hK _ ?_
      clear hK K
      refine AWp.cond rfl (fun h25 => ?_) (fun h25 => ?_)
      · try simp at h25
        rw [samZ, if_neg h25] at hs
        have hb : decide (a = b) = false := by rw [← hle, ← hs]
        -- region 7
        refine AWp.rseq E_ok [0, 1, 4, 5, 10, 14, 25] fun K hK => ?_
        simp [encInts_eq, h14, hy1, hx, hxx]
        repeat refine ⟨by first | omega | assumption | (simp only [maxLen]; omega) | (intros; omega) | decide, ?_⟩
        refine hK _ ?_
        clear hK K
        refine AWp.ret ?_
        repeat first | refine thenN ?_ | refine thenX ?_ | refine thenR ?_ | refine blockN ?_ | refine blockR ?_ | refine blockX ?_ | refine blockM rfl ?_
        simp [RetOk, RV, hb]
      · try simp at h25
        rw [samZ, if_pos h25] at hs
        refine AWp.skip ?_
        repeat first | refine thenN ?_ | refine thenX ?_ | refine thenR ?_ | refine blockN ?_ | refine blockR ?_ | refine blockX ?_ | refine blockM rfl ?_
        -- region 5
        refine AWp.rend E_ok [0, 1, 4, 5, 10, 14, 25] fun K hK => ?_
        simp [encInts_eq, h14, hy1, hx, hxx]
        repeat refine ⟨by first | omega | assumption | (simp only [maxLen]; omega) | (intros; omega) | decide, ?_⟩
        refine hK _ ?_
        clear hK K
        repeat first | refine thenN ?_ | refine thenX ?_ | refine thenR ?_ | refine blockN ?_ | refine blockR ?_ | refine blockX ?_ | refine blockM rfl ?_
        have hw : IntKind.i64.wrap ((k : Int) + 1) = (k : Int) + 1 := by rw [wrap_i64] <;> omega
        skip
        refine ⟨_, h14, hs, ?_, ?_⟩
        · first | exact trivial | (simp; omega) | simp
        · simp [Weak, TW, hw, encInts_eq]
    · try simp at h14
      obtain rfl : k = a.length := by omega
      simp [samZ] at hs
      have hb : decide (a = b) = true := by rw [← hle]; simp [hs]
      refine AWp.exit ?_
      repeat first | refine thenN ?_ | refine thenX ?_ | refine thenR ?_ | refine blockN ?_ | refine blockR ?_ | refine blockX ?_ | refine blockM rfl ?_
      -- region 8
      refine AWp.rseq E_ok [0, 1, 4, 5, 10, 14, 25] fun K hK => ?_
      simp [encInts_eq, h14]
      repeat refine ⟨by first | omega | assumption | (simp only [maxLen]; omega) | (intros; omega) | decide, ?_⟩
      refine hK _ ?_
      clear hK K
      refine AWp.ret ?_
      repeat first | refine thenN ?_ | refine thenX ?_ | refine thenR ?_ | refine blockN ?_ | refine blockR ?_ | refine blockX ?_ | refine blockM rfl ?_
      simp [RetOk, RV, hb]
end Go.Proofs.Ytceapemkefaicaa

set_option maxRecDepth 100000
set_option linter.unusedSimpArgs false
set_option linter.unusedVariables false
namespace Go.Proofs.Ytceapemkefaicaa
open Go Ab Pl
theorem ref37_SamePattern (a b : Pat) (h1 : a.skip.length ≤ 100000) (h2 : a.dbl.length ≤ 100000) : ACalls E.P 47 [encPat a, encPat b] (.d (.bool (decide (a = b)))) := by
  refine ACalls.intro E_ok Try.func47 rfl rfl Try.ntmps47 Try.results47 (Nat.le_of_ble_eq_true rfl) fun hok base S0 w0 => ?_
  -- region 0
  refine AWp.rseq E_ok [0, 1, 2, 3, 4] fun K hK => ?_
  simp [encPat_eq]
  repeat refine ⟨by first | omega | assumption | (simp only [maxLen]; omega) | (intros; omega) | decide, ?_⟩
  refine hK _ ?_
  clear hK K
  -- region 1
  refine AWp.rseq E_ok [0, 1, 2, 3, 4] fun K hK => ?_
  simp [encPat_eq]
  repeat refine ⟨by first | omega | assumption | (simp only [maxLen]; omega) | (intros; omega) | decide, ?_⟩
  refine meet.of (ref37_same a.skip b.skip (by omega)) ?_
  simp [encPat_eq]
  repeat refine ⟨by first | omega | assumption | (simp only [maxLen]; omega) | (intros; omega) | decide, ?_⟩
  refine meet.of (ref37_same a.dbl b.dbl (by omega)) ?_
  simp [encPat_eq]
  repeat refine ⟨by first | omega | assumption | (simp only [maxLen]; omega) | (intros; omega) | decide, ?_⟩
  refine hK _ ?_
  clear hK K
  refine AWp.ret ?_
  repeat first | refine thenN ?_ | refine thenX ?_ | refine thenR ?_ | refine blockN ?_ | refine blockR ?_ | refine blockX ?_ | refine blockM rfl ?_
  simp [RetOk, RV]; rw [Bool.eq_iff_iff]; simp [pat_eq, and_assoc]
end Go.Proofs.Ytceapemkefaicaa

set_option maxRecDepth 100000
set_option linter.unusedSimpArgs false
set_option linter.unusedVariables false
namespace Go.Proofs.Ytceapemkefaicaa
open Go Ab Pl
theorem ref37_Same (a b : Ser) (h1 : a.pat.skip.length ≤ 100000) (h2 : a.pat.dbl.length ≤ 100000) (h3 : a.iss.length ≤ 100000) : ACalls E.P 20 [encSer a, encSer b] (.d (.bool (decide (a = b)))) := by
  refine ACalls.intro E_ok Try.func20 rfl rfl Try.ntmps20 Try.results20 (Nat.le_of_ble_eq_true rfl) fun hok base S0 w0 => ?_
  -- region 0
  refine AWp.rseq E_ok [0, 1, 2, 3, 4] fun K hK => ?_
  simp [encSer_eq, encIsss_eq]
  repeat refine ⟨by first | omega | assumption | (simp only [maxLen]; omega) | (intros; omega) | decide, ?_⟩
  refine hK _ ?_
  clear hK K
  -- region 1
  refine AWp.rseq E_ok [0, 1, 2, 3, 4] fun K hK => ?_
  simp [encSer_eq, encIsss_eq]
  repeat refine ⟨by first | omega | assumption | (simp only [maxLen]; omega) | (intros; omega) | decide, ?_⟩
  refine meet.of (ref36_Same a.iss b.iss (by omega)) ?_
  simp [encSer_eq, encIsss_eq]
  repeat refine ⟨by first | omega | assumption | (simp only [maxLen]; omega) | (intros; omega) | decide, ?_⟩
  refine meet.of (ref37_SamePattern a.pat b.pat (by omega) (by omega)) ?_
  simp [encSer_eq, encIsss_eq]
  repeat refine ⟨by first | omega | assumption | (simp only [maxLen]; omega) | (intros; omega) | decide, ?_⟩
  refine hK _ ?_
  clear hK K
  refine AWp.ret ?_
  repeat first | refine thenN ?_ | refine thenX ?_ | refine thenR ?_ | refine blockN ?_ | refine blockR ?_ | refine blockX ?_ | refine blockM rfl ?_
  simp [RetOk, RV]; rw [Bool.eq_iff_iff]; simp [ser_eq]
end Go.Proofs.Ytceapemkefaicaa

set_option maxRecDepth 100000
set_option linter.unusedSimpArgs false
set_option linter.unusedVariables false
namespace Go.Proofs.Ytceapemkefaicaa
open Go Ab Pl
theorem law37_SerialNews (r : Int) (p : Pat) : ACalls E.P 4 [.int .i64 r, encPat p] (.d (.bool true)) := by
  refine ACalls.intro E_ok Try.func4 rfl rfl Try.ntmps4 Try.results4 (Nat.le_of_ble_eq_true rfl) fun hok base S0 w0 => ?_
  -- region 0
  refine AWp.rseq E_ok [0, 1, 3, 4, 5, 6, 7, 8, 12] fun K hK => ?_
  simp [encPat_eq, encSer_eq, encIsss_eq, encIss_eq]
  repeat refine ⟨by first | omega | assumption | (simp only [maxLen]; omega) | (intros; omega) | decide, ?_⟩
  refine hK _ ?_
  clear hK K
  refine AWp.seq ?_
  -- region 1
  refine AWp.rseq E_ok [0, 1, 3, 4, 5, 6, 7, 8, 12] fun K hK => ?_
  simp [encPat_eq, encSer_eq, encIsss_eq, encIss_eq]
  repeat refine ⟨by first | omega | assumption | (simp only [maxLen]; omega) | (intros; omega) | decide, ?_⟩
  refine meet.of (ref37_Small ⟨0, p, 0, []⟩) ?_
  simp [encPat_eq, encSer_eq, encIsss_eq, encIss_eq]
  repeat refine ⟨by first | omega | assumption | (simp only [maxLen]; omega) | (intros; omega) | decide, ?_⟩
  refine hK _ ?_
  clear hK K
  refine AWp.cond rfl (fun h12 => ?_) (fun h12 => ?_)
  · try simp at h12
    -- region 2
    refine AWp.rseq E_ok [0, 1, 3, 4, 5, 6, 7, 8, 12] fun K hK => ?_
    simp [encPat_eq, encSer_eq, encIsss_eq, encIss_eq]
    repeat refine ⟨by first | omega | assumption | (simp only [maxLen]; omega) | (intros; omega) | decide, ?_⟩
    refine meet.of (law37_alive) ?_
    simp [encPat_eq, encSer_eq, encIsss_eq, encIss_eq]
    repeat refine ⟨by first | omega | assumption | (simp only [maxLen]; omega) | (intros; omega) | decide, ?_⟩
    refine hK _ ?_
    clear hK K
    refine AWp.ret ?_
    repeat first | refine thenN ?_ | refine thenX ?_ | refine thenR ?_ | refine blockN ?_ | refine blockR ?_ | refine blockX ?_ | refine blockM rfl ?_
    simp [RetOk, RV]
  · try simp at h12
    have hlen := len_new r (small_ok (s := ⟨0, p, 0, []⟩) (by simpa using h12))
    refine AWp.skip ?_
    repeat first | refine thenN ?_ | refine thenX ?_ | refine thenR ?_ | refine blockN ?_ | refine blockR ?_ | refine blockX ?_ | refine blockM rfl ?_
    -- region 3
    refine AWp.rseq E_ok [0, 1, 3, 4, 5, 6, 7, 8, 12] fun K hK => ?_
    simp [encPat_eq, encSer_eq, encIsss_eq, encIss_eq]
    repeat refine ⟨by first | omega | assumption | (simp only [maxLen]; omega) | (intros; omega) | decide, ?_⟩
    refine meet.of (serial_New r p) ?_
    simp [encPat_eq, encSer_eq, encIsss_eq, encIss_eq]
    repeat refine ⟨by first | omega | assumption | (simp only [maxLen]; omega) | (intros; omega) | decide, ?_⟩
    refine hK _ ?_
    clear hK K
    -- region 4
    refine AWp.rseq E_ok [0, 1, 3, 4, 5, 6, 7, 8, 12] fun K hK => ?_
    simp [encPat_eq, encSer_eq, encIsss_eq, encIss_eq]
    repeat refine ⟨by first | omega | assumption | (simp only [maxLen]; omega) | (intros; omega) | decide, ?_⟩
    refine meet.of (ref37_New r p) ?_
    simp [encPat_eq, encSer_eq, encIsss_eq, encIss_eq]
    repeat refine ⟨by first | omega | assumption | (simp only [maxLen]; omega) | (intros; omega) | decide, ?_⟩
    refine hK _ ?_
    clear hK K
    -- region 5
    refine AWp.rseq E_ok [0, 1, 3, 4, 5, 6, 7, 8, 12] fun K hK => ?_
    simp [encPat_eq, encSer_eq, encIsss_eq, encIss_eq]
    repeat refine ⟨by first | omega | assumption | (simp only [maxLen]; omega) | (intros; omega) | decide, ?_⟩
    refine meet.of (ref37_Same (newR r p).1 (newR r p).1 hlen.1 hlen.2.1 hlen.2.2) ?_
    simp [encPat_eq, encSer_eq, encIsss_eq, encIss_eq]
    repeat refine ⟨by first | omega | assumption | (simp only [maxLen]; omega) | (intros; omega) | decide, ?_⟩
    refine meet.of (law37_alive) ?_
    simp [encPat_eq, encSer_eq, encIsss_eq, encIss_eq]
    repeat refine ⟨by first | omega | assumption | (simp only [maxLen]; omega) | (intros; omega) | decide, ?_⟩
    refine hK _ ?_
    clear hK K
    refine AWp.ret ?_
    repeat first | refine thenN ?_ | refine thenX ?_ | refine thenR ?_ | refine blockN ?_ | refine blockR ?_ | refine blockX ?_ | refine blockM rfl ?_
    simp [RetOk, RV]
end Go.Proofs.Ytceapemkefaicaa
