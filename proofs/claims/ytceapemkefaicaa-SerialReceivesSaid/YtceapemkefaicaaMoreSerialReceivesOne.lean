/-
  What the functions compute that the statement reaches: contracts, and the plain laws between them. Conditions stand at each theorem.
-/
import Derived.Test.YtceapemkefaicaaWalkSix
set_option linter.unusedVariables false
set_option linter.unusedSimpArgs false
/- Serials: how long things are. -/
namespace Pl
open Go Ab
set_option linter.unusedVariables false
set_option linter.unusedSimpArgs false
theorem small_ok {s : Ser} (h : smallS s = true) : s.iss.length ≤ 140 ∧ s.pat.skip.length ≤ 20 ∧ s.pat.dbl.length ≤ 20 := by
  unfold smallS at h; simp at h; omega
def LenS (s : Ser) : Prop := s.pat.skip.length ≤ 100000 ∧ s.pat.dbl.length ≤ 100000 ∧ s.iss.length ≤ 100000
theorem len_z : LenS zSer := by unfold LenS; decide
theorem len_new (r : Int) {p : Pat} (h : (0 : Nat) ≤ 140 ∧ p.skip.length ≤ 20 ∧ p.dbl.length ≤ 20) : LenS (newR r p).1 := by
  unfold newR
  split
  · exact len_z
  · split
    · exact len_z
    · unfold LenS; simp; omega
theorem len_exp {s : Ser} (d : Int) (h : s.iss.length ≤ 140 ∧ s.pat.skip.length ≤ 20 ∧ s.pat.dbl.length ≤ 20) : LenS (expR s d).1 := by
  have := list_len s.pat s.next (untilR s.pat d - s.next)
  unfold expR
  split
  · unfold LenS; simp only; omega
  · split
    · exact len_z
    · unfold LenS; simp only [List.length_append]; omega
theorem len_rec {s : Ser} (v n it : Int) (h : s.iss.length ≤ 140 ∧ s.pat.skip.length ≤ 20 ∧ s.pat.dbl.length ≤ 20) : LenS (recR s v n it).1 := by
  unfold recR
  split
  · exact len_z
  · split
    · exact len_z
    · split
      · exact len_z
      · unfold LenS; simp only [List.length_set]; omega
theorem len_miss {s : Ser} (v n : Int) (h : s.iss.length ≤ 140 ∧ s.pat.skip.length ≤ 20 ∧ s.pat.dbl.length ≤ 20) : LenS (missR s v n).1 := by
  unfold missR
  split
  · exact len_z
  · split
    · exact len_z
    · unfold LenS; simp only [List.length_set]; omega
theorem len_claim {s : Ser} (d w : Int) (h : s.iss.length ≤ 140 ∧ s.pat.skip.length ≤ 20 ∧ s.pat.dbl.length ≤ 20) : LenS (claimR s d w).1 := by
  unfold claimR LenS; simp only [List.length_map]; omega
theorem len_claim2 {s : Ser} (d w : Int) (h : s.iss.length ≤ 140 ∧ s.pat.skip.length ≤ 20 ∧ s.pat.dbl.length ≤ 20) : (claimR s d w).2.length ≤ 100000 := by
  have := lateIx_len d w s.iss 0
  unfold claimR; simp only; omega
theorem len_bind {s : Ser} (v it : Int) (h : s.iss.length ≤ 140 ∧ s.pat.skip.length ≤ 20 ∧ s.pat.dbl.length ≤ 20) : LenS (bindR s v it).1 := by
  unfold bindR
  split
  · exact len_z
  · split
    · exact len_z
    · split
      · exact len_z
      · unfold LenS; simp only [List.length_map]; omega
theorem SerOk.free {s : Ser} (h : SerOk s) {x : Iss} (hx : x ∈ s.iss) (hs : x.st = 1 ∨ x.st = 3) : x.item = 0 := by
  obtain ⟨i, hi⟩ := List.getElem?_of_mem hx
  have := h.iss hi; omega
theorem iss_rec {s : Ser} (v n it : Int) (h : s.iss.length ≤ 1000) : (recR s v n it).1.iss.length ≤ 1000 := by
  unfold recR
  split
  · exact Nat.zero_le _
  · split
    · exact Nat.zero_le _
    · split
      · exact Nat.zero_le _
      · simp only [List.length_set]; exact h
theorem iss_miss {s : Ser} (v n : Int) (h : s.iss.length ≤ 1000) : (missR s v n).1.iss.length ≤ 1000 := by
  unfold missR
  split
  · exact Nat.zero_le _
  · split
    · exact Nat.zero_le _
    · simp only [List.length_set]; exact h
theorem iss_bind {s : Ser} (v it : Int) (h : s.iss.length ≤ 1000) : (bindR s v it).1.iss.length ≤ 1000 := by
  unfold bindR
  split
  · exact Nat.zero_le _
  · split
    · exact Nat.zero_le _
    · split
      · exact Nat.zero_le _
      · simp only [List.length_map]; exact h
theorem iss_claim {s : Ser} (d w : Int) (h : s.iss.length ≤ 1000) : (claimR s d w).1.iss.length ≤ 1000 := by
  unfold claimR; simp only [List.length_map]; exact h
theorem claim_again (s : Ser) (d w : Int) : (claimR (claimR s d w).1 d w).2 = [] := late_none _ _
/-- a loop that finds no fault -/
def trU {α : Type} : Unit → List α → Bool
  | _, [] => true
  | _, _ :: l => trU () l
def FndC (v n : Int) (x : Iss) : Prop := (x.vol = v ∧ (x.num = n ∨ x.num ≤ n ∧ n ≤ x.last)) ∧ (x.st = 2 ∨ x.st = 4)
instance (v n : Int) (x : Iss) : Decidable (FndC v n x) := by unfold FndC; infer_instance
def fndB (v n : Int) : Bool → List Iss → Bool
  | b, [] => b
  | b, x :: l => fndB v n (b || decide (FndC v n x)) l
theorem fndB_true (v n : Int) : ∀ l : List Iss, fndB v n true l = true
  | [] => rfl
  | x :: l => by unfold fndB; rw [Bool.true_or]; exact fndB_true v n l
theorem fndB_mem {v n : Int} : ∀ {l : List Iss} (b : Bool) {y : Iss}, y ∈ l → FndC v n y → fndB v n b l = true
  | x :: l, b, y, hy, hf => by
    unfold fndB
    rcases List.mem_cons.1 hy with rfl | hy
    · rw [decide_eq_true hf, Bool.or_true]; exact fndB_true v n l
    · exact fndB_mem _ hy hf
theorem held_fnd {s : Ser} (h : SerOk s) {v n : Int} (hv : heldB s.iss s.pat.per v = true) (h1 : 1 ≤ n) (h2 : n ≤ s.pat.per) : fndB v n false s.iss = true := by
  obtain ⟨y, hy, hn, hs⟩ := held_num h hv h1 h2
  exact fndB_mem false hy ⟨hn, hs⟩
theorem gap_len : ∀ (l : List Iss) (i : Int), (gapF i l).length ≤ l.length
  | [], _ => by simp [gapF]
  | x :: l, i => by
    have := gap_len l (i + 1)
    unfold gapF
    split
    · simp only [List.length_cons]; omega
    · simp only [List.length_cons]; omega
theorem len_gaps {s : Ser} (h : SerOk s) : (gapsR s).length ≤ 100000 := by have := gap_len s.iss 0; have := h.len; unfold gapsR; omega
theorem addS_len (o : List Spn) (v : Int) : (addS o v).length ≤ o.length + 1 := by
  unfold addS
  split
  · split
    · simp <;> omega
    · simp
  · simp
theorem hld_len (l : List Iss) (per : Int) : ∀ (r : List Iss) (i : Nat) (o : List Spn), (hldF l per (i, o) r).length ≤ o.length + r.length
  | [], i, o => by simp [hldF]
  | x :: r, i, o => by
    rw [hldF_go]
    split
    · have := hld_len l per r (i + 1) o; simp only [List.length_cons]; omega
    · have := hld_len l per r (i + 1) (addS o x.vol); have := addS_len o x.vol; simp only [List.length_cons]; omega
theorem len_held {s : Ser} (h : SerOk s) : (heldR s).length ≤ 100000 := by have h1 := hld_len s.iss s.pat.per s.iss 0 []; have h2 := h.len; unfold heldR; rw [List.length_nil] at h1; omega
end Pl

set_option maxRecDepth 100000
set_option linter.unusedSimpArgs false
set_option linter.unusedVariables false
namespace Go.Proofs.Ytceapemkefaicaa
open Go Ab Pl
theorem ref37_Small (s : Ser) : ACalls E.P 14 [encSer s] (.d (.bool (smallS s))) := by
  refine ACalls.intro E_ok Try.func14 rfl rfl Try.ntmps14 Try.results14 (Nat.le_of_ble_eq_true rfl) fun hok base S0 w0 => ?_
  -- region 0
  refine AWp.rseq E_ok [0, 1, 2] fun K hK => ?_
  simp [encSer_eq, encIsss_eq, encInts_eq]
  repeat refine ⟨by first | omega | assumption | (simp only [maxLen]; omega) | (intros; omega) | decide, ?_⟩
  refine hK _ ?_
  clear hK K
  -- region 1
  refine AWp.rseq E_ok [0, 1, 2] fun K hK => ?_
  simp [encSer_eq, encIsss_eq, encInts_eq]
  repeat refine ⟨by first | omega | assumption | (simp only [maxLen]; omega) | (intros; omega) | decide, ?_⟩
  refine hK _ ?_
  clear hK K
  refine AWp.ret ?_
  repeat first | refine thenN ?_ | refine thenX ?_ | refine thenR ?_ | refine blockN ?_ | refine blockR ?_ | refine blockX ?_ | refine blockM rfl ?_
  simp [RetOk, RV, smallS]; rw [Bool.eq_iff_iff]; simp; omega
end Go.Proofs.Ytceapemkefaicaa

set_option maxRecDepth 100000
set_option linter.unusedSimpArgs false
set_option linter.unusedVariables false
namespace Go.Proofs.Ytceapemkefaicaa
open Go Ab Pl
theorem ref36_months (l : List Int) : ACalls E.P 66 [encInts l] (.d (.int .i64 (monR l))) := by
  refine ACalls.intro E_ok Try.func66 rfl rfl Try.ntmps66 Try.results66 (Nat.le_of_ble_eq_true rfl) fun hok base S0 w0 => ?_
  have hl : l.length ≤ 9223372036854775807 := by have := (Ok_slice (hok (encInts l) (by simp))).1; simpa using this
  -- region 0
  refine AWp.rseq E_ok [0, 2, 3, 4, 8, 22, 26, 38] fun K hK => ?_
  simp [encInts_eq]
  try simp (disch := omega) only [wrap_i64]
  repeat refine ⟨by first | omega | assumption | (simp only [maxLen]; omega) | (intros; omega) | decide, ?_⟩
  refine hK _ ?_
  clear hK K
  refine AWp.seq ?_
  -- region 1
  refine AWp.rseq E_ok [0, 2, 3, 4, 8, 22, 26, 38] fun K hK => ?_
  simp [encInts_eq]
  try simp (disch := omega) only [wrap_i64]
  repeat refine ⟨by first | omega | assumption | (simp only [maxLen]; omega) | (intros; omega) | decide, ?_⟩
  refine hK _ ?_
  clear hK K
  refine AWp.block ?_
  refine AWp.range (l := l) (F := badMo) (tot := badMo () l) (fun k y => match y with | () => True) (fun k y => match y with | () => [(0, T.val ((D.int IntKind.i64 0).slice (List.map (D.int IntKind.i64) l))), (3, T.val (.int .i64 k))]) () ?_ rfl ?_ ?_
  · simp [Weak, TW, encInts_eq]
  · first | exact trivial | (simp; omega) | simp
  rintro k ⟨⟩ hk hs hi
  try simp only at hi
  refine AWp.seq ?_
  -- region 2
  refine AWp.rseq E_ok [0, 2, 3, 4, 8, 22, 26, 38] fun K hK => ?_
  simp [encInts_eq]
  try simp (disch := omega) only [wrap_i64]
  repeat refine ⟨by first | omega | assumption | (simp only [maxLen]; omega) | (intros; omega) | decide, ?_⟩
  refine hK _ ?_
  clear hK K
  refine AWp.cond rfl (fun h8 => ?_) (fun h8 => ?_)
  · try simp at h8
    obtain ⟨x, hx, hxx, hd⟩ := at_indexG (l := l) h8
    rw [hd] at hs
    refine AWp.skip ?_
    repeat first | refine thenN ?_ | refine thenX ?_ | refine thenR ?_ | refine blockN ?_ | refine blockR ?_ | refine blockX ?_ | refine blockM rfl ?_
    refine AWp.seq ?_
    refine AWp.block ?_
    -- region 4
    refine AWp.rseq E_ok [0, 2, 3, 4, 8, 22, 26, 38] fun K hK => ?_
    simp [encInts_eq, h8, hx, hxx]
    try simp (disch := omega) only [wrap_i64]
    repeat refine ⟨by first | omega | assumption | (simp only [maxLen]; omega) | (intros; omega) | decide, ?_⟩
    refine hK _ ?_
    clear hK K
    refine AWp.cond rfl (fun h22 => ?_) (fun h22 => ?_)
    · try simp at h22
      have hb := mon_bad (l := l) (by rw [← hs]; exact if_pos (by omega))
      rw [badMo, if_pos (by omega)] at hs
      -- region 5
      refine AWp.rseq E_ok [0, 2, 3, 4, 8, 22, 26, 38] fun K hK => ?_
      simp [encInts_eq, h8, hx, hxx]
      try simp (disch := omega) only [wrap_i64]
      repeat refine ⟨by first | omega | assumption | (simp only [maxLen]; omega) | (intros; omega) | decide, ?_⟩
      refine hK _ ?_
      clear hK K
      refine AWp.ret ?_
      repeat first | refine thenN ?_ | refine thenX ?_ | refine thenR ?_ | refine blockN ?_ | refine blockR ?_ | refine blockX ?_ | refine blockM rfl ?_
      simp [RetOk, RV, hb]
    · try simp at h22
      rw [badMo, if_neg (by omega)] at hs
      refine AWp.skip ?_
      repeat first | refine thenN ?_ | refine thenX ?_ | refine thenR ?_ | refine blockN ?_ | refine blockR ?_ | refine blockX ?_ | refine blockM rfl ?_
      -- region 3
      refine AWp.rend E_ok [0, 2, 3, 4, 8, 22, 26, 38] fun K hK => ?_
      simp [encInts_eq, h8, hx, hxx]
      try simp (disch := omega) only [wrap_i64]
      repeat refine ⟨by first | omega | assumption | (simp only [maxLen]; omega) | (intros; omega) | decide, ?_⟩
      refine hK _ ?_
      clear hK K
      repeat first | refine thenN ?_ | refine thenX ?_ | refine thenR ?_ | refine blockN ?_ | refine blockR ?_ | refine blockX ?_ | refine blockM rfl ?_
      have hw : IntKind.i64.wrap ((k : Int) + 1) = (k : Int) + 1 := by rw [wrap_i64] <;> omega
      skip
      refine ⟨_, h8, hs, ?_, ?_⟩
      · first | exact trivial | (simp; omega) | simp
      · simp [Weak, TW, hw, encInts_eq]
  · try simp at h8
    obtain rfl : k = l.length := by omega
    simp [badMo] at hs
    refine AWp.exit ?_
    repeat first | refine thenN ?_ | refine thenX ?_ | refine thenR ?_ | refine blockN ?_ | refine blockR ?_ | refine blockX ?_ | refine blockM rfl ?_
    refine AWp.seq ?_
    -- region 6
    refine AWp.rseq E_ok [0, 2, 3, 4, 8, 22, 26, 38] fun K hK => ?_
    simp [encInts_eq, h8]
    try simp (disch := omega) only [wrap_i64]
    repeat refine ⟨by first | omega | assumption | (simp only [maxLen]; omega) | (intros; omega) | decide, ?_⟩
    refine hK _ ?_
    clear hK K
    refine AWp.block ?_
    refine AWp.loop (ι := { i : Nat // 1 ≤ i ∧ (i ≤ l.length ∨ i = 1) ∧ twMo (l.drop (i - 1)) = twMo l }) (fun x => match x with | ⟨i, hi, hi2, htw⟩ => [(0, T.val ((D.int IntKind.i64 0).slice (List.map (D.int IntKind.i64) l))), (4, T.val (.int .i64 i))]) (fun x => match x with | ⟨i, hi, hi2, htw⟩ => l.length + 1 - i) ⟨1, by omega, by omega, rfl⟩ ?_ ?_
    · simp [Weak, TW, encInts_eq]
    rintro ⟨i, hi, hi2, htw⟩
    simp only
    try simp only at hi
    try simp only at hi2
    try simp only at htw
    refine AWp.seq ?_
    -- region 7
    refine AWp.rseq E_ok [0, 2, 3, 4, 8, 22, 26, 38] fun K hK => ?_
    simp [encInts_eq, h8]
    try simp (disch := omega) only [wrap_i64]
    repeat refine ⟨by first | omega | assumption | (simp only [maxLen]; omega) | (intros; omega) | decide, ?_⟩
    refine hK _ ?_
    clear hK K
    refine AWp.cond rfl (fun h26 => ?_) (fun h26 => ?_)
    · try simp at h26
      obtain ⟨j, rfl⟩ : ∃ j, i = j + 1 := ⟨i - 1, by omega⟩
      obtain ⟨x, hx1, hx2, _⟩ := at_indexG (l := l) (k := j + 1) (by omega)
      obtain ⟨y, hy1, hy2, _⟩ := at_indexG (l := l) (k := j) (by omega)
      have hst := tw_step hy1 hx1
      have hj0 : IntKind.i64.wrap ((j : Int) + 1 - 1) = (j : Int) := by rw [wrap_i64] <;> omega
      have hj1 : j < l.length := by omega
      refine AWp.skip ?_
      repeat first | refine thenN ?_ | refine thenX ?_ | refine thenR ?_ | refine blockN ?_ | refine blockR ?_ | refine blockX ?_ | refine blockM rfl ?_
      refine AWp.seq ?_
      refine AWp.block ?_
      -- region 9
      refine AWp.rseqQ E_ok mixed [0, 2, 3, 4, 8, 22, 26, 38] (by kernel_rfl) fun K hK => ?_
      simp [encInts_eq, h8, h26, hx1, hx2, hy1, hy2, hj0, hj1]
      try simp (disch := omega) only [wrap_i64]
      repeat refine ⟨by first | omega | assumption | (simp only [maxLen]; omega) | (intros; omega) | decide, ?_⟩
      refine hK _ ?_
      clear hK K
      refine AWp.cond rfl (fun h38 => ?_) (fun h38 => ?_)
      · try simp at h38
        simp only [hy1, Option.getD_some] at h38
        have hb := mon_tw hs (htw ▸ (by rw [show j + 1 - 1 = j by omega, hst, if_pos (by omega)]))
        -- region 10
        refine AWp.rseq E_ok [0, 2, 3, 4, 8, 22, 26, 38] fun K hK => ?_
        simp [encInts_eq, h8, h26, hx1, hx2, hy1, hy2, hj0, hj1]
        try simp (disch := omega) only [wrap_i64]
        repeat refine ⟨by first | omega | assumption | (simp only [maxLen]; omega) | (intros; omega) | decide, ?_⟩
        refine hK _ ?_
        clear hK K
        refine AWp.ret ?_
        repeat first | refine thenN ?_ | refine thenX ?_ | refine thenR ?_ | refine blockN ?_ | refine blockR ?_ | refine blockX ?_ | refine blockM rfl ?_
        simp [RetOk, RV, hb]
      · try simp at h38
        simp only [hy1, Option.getD_some] at h38
        rw [show j + 1 - 1 = j by omega, hst, if_neg (by omega)] at htw
        refine AWp.skip ?_
        repeat first | refine thenN ?_ | refine thenX ?_ | refine thenR ?_ | refine blockN ?_ | refine blockR ?_ | refine blockX ?_ | refine blockM rfl ?_
        -- region 8
        refine AWp.rend E_ok [0, 2, 3, 4, 8, 22, 26, 38] fun K hK => ?_
        simp [encInts_eq, h8, h26, hx1, hx2, hy1, hy2, hj0, hj1]
        try simp (disch := omega) only [wrap_i64]
        repeat refine ⟨by first | omega | assumption | (simp only [maxLen]; omega) | (intros; omega) | decide, ?_⟩
        refine hK _ ?_
        clear hK K
        repeat first | refine thenN ?_ | refine thenX ?_ | refine thenR ?_ | refine blockN ?_ | refine blockR ?_ | refine blockX ?_ | refine blockM rfl ?_
        refine ⟨⟨j + 1 + 1, by omega, by omega, by rw [← htw]; rfl⟩, ?_, by simp only; omega⟩
        simp [Weak, TW]
    · try simp at h26
      have hb := mon_ok hs (htw ▸ tw_end (l := l) (i := i) (by omega))
      refine AWp.exit ?_
      repeat first | refine thenN ?_ | refine thenX ?_ | refine thenR ?_ | refine blockN ?_ | refine blockR ?_ | refine blockX ?_ | refine blockM rfl ?_
      -- region 11
      refine AWp.rseq E_ok [0, 2, 3, 4, 8, 22, 26, 38] fun K hK => ?_
      simp [encInts_eq, h8, h26]
      try simp (disch := omega) only [wrap_i64]
      repeat refine ⟨by first | omega | assumption | (simp only [maxLen]; omega) | (intros; omega) | decide, ?_⟩
      refine hK _ ?_
      clear hK K
      refine AWp.ret ?_
      repeat first | refine thenN ?_ | refine thenX ?_ | refine thenR ?_ | refine blockN ?_ | refine blockR ?_ | refine blockX ?_ | refine blockM rfl ?_
      simp [RetOk, RV, hb]
end Go.Proofs.Ytceapemkefaicaa

set_option maxRecDepth 100000
set_option linter.unusedSimpArgs false
set_option linter.unusedVariables false
namespace Go.Proofs.Ytceapemkefaicaa
open Go Ab Pl
theorem ref36_in (l : List Int) (v : Int) : ACalls E.P 67 [encInts l, .int .i64 v] (.d (.bool (l.contains v))) := by
  refine ACalls.intro E_ok Try.func67 rfl rfl Try.ntmps67 Try.results67 (Nat.le_of_ble_eq_true rfl) fun hok base S0 w0 => ?_
  have hl : l.length ≤ 9223372036854775807 := by have := (Ok_slice (hok (encInts l) (by simp))).1; simpa using this
  -- region 0
  refine AWp.rseq E_ok [0, 1, 4, 5, 9, 17] fun K hK => ?_
  simp [encInts_eq]
  repeat refine ⟨by first | omega | assumption | (simp only [maxLen]; omega) | (intros; omega) | decide, ?_⟩
  refine hK _ ?_
  clear hK K
  refine AWp.seq ?_
  -- region 1
  refine AWp.rseq E_ok [0, 1, 4, 5, 9, 17] fun K hK => ?_
  simp [encInts_eq]
  repeat refine ⟨by first | omega | assumption | (simp only [maxLen]; omega) | (intros; omega) | decide, ?_⟩
  refine hK _ ?_
  clear hK K
  refine AWp.block ?_
  refine AWp.range (l := l) (F := hasF v) (tot := hasF v () l) (fun k y => match y with | () => True) (fun k y => match y with | () => [(0, T.val ((D.int IntKind.i64 0).slice (List.map (D.int IntKind.i64) l))), (1, T.val (D.int IntKind.i64 v)), (5, T.val (.int .i64 k))]) () ?_ rfl ?_ ?_
  · simp [Weak, TW, encInts_eq]
  · first | exact trivial | (simp; omega) | simp
  rintro k ⟨⟩ hk hs hi
  try simp only at hi
  refine AWp.seq ?_
  -- region 2
  refine AWp.rseq E_ok [0, 1, 4, 5, 9, 17] fun K hK => ?_
  simp [encInts_eq]
  repeat refine ⟨by first | omega | assumption | (simp only [maxLen]; omega) | (intros; omega) | decide, ?_⟩
  refine hK _ ?_
  clear hK K
  refine AWp.cond rfl (fun h9 => ?_) (fun h9 => ?_)
  · try simp at h9
    obtain ⟨x, hx, hxx, hd⟩ := at_indexG (l := l) h9
    rw [hd] at hs
    refine AWp.skip ?_
    repeat first | refine thenN ?_ | refine thenX ?_ | refine thenR ?_ | refine blockN ?_ | refine blockR ?_ | refine blockX ?_ | refine blockM rfl ?_
    refine AWp.seq ?_
    refine AWp.block ?_
    -- region 4
    refine AWp.rseq E_ok [0, 1, 4, 5, 9, 17] fun K hK => ?_
    simp [encInts_eq, h9, hx, hxx]
    repeat refine ⟨by first | omega | assumption | (simp only [maxLen]; omega) | (intros; omega) | decide, ?_⟩
    refine hK _ ?_
    clear hK K
    refine AWp.cond rfl (fun h17 => ?_) (fun h17 => ?_)
    · try simp at h17
      -- region 5
      refine AWp.rseq E_ok [0, 1, 4, 5, 9, 17] fun K hK => ?_
      simp [encInts_eq, h9, hx, hxx, h17]
      repeat refine ⟨by first | omega | assumption | (simp only [maxLen]; omega) | (intros; omega) | decide, ?_⟩
      refine hK _ ?_
      clear hK K
      refine AWp.ret ?_
      repeat first | refine thenN ?_ | refine thenX ?_ | refine thenR ?_ | refine blockN ?_ | refine blockR ?_ | refine blockX ?_ | refine blockM rfl ?_
      simp [hasF, h17] at hs
      rw [← hasF_eq]; first | (simp [RetOk, RV, ← hs]; done) | (simp [RetOk, RV, ← hs, h17])
    · try simp at h17
      refine AWp.skip ?_
      repeat first | refine thenN ?_ | refine thenX ?_ | refine thenR ?_ | refine blockN ?_ | refine blockR ?_ | refine blockX ?_ | refine blockM rfl ?_
      -- region 3
      refine AWp.rend E_ok [0, 1, 4, 5, 9, 17] fun K hK => ?_
      simp [encInts_eq, h9, hx, hxx, h17]
      repeat refine ⟨by first | omega | assumption | (simp only [maxLen]; omega) | (intros; omega) | decide, ?_⟩
      refine hK _ ?_
      clear hK K
      repeat first | refine thenN ?_ | refine thenX ?_ | refine thenR ?_ | refine blockN ?_ | refine blockR ?_ | refine blockX ?_ | refine blockM rfl ?_
      have hw : IntKind.i64.wrap ((k : Int) + 1) = (k : Int) + 1 := by rw [wrap_i64] <;> omega
      simp [hasF, h17] at hs
      refine ⟨_, h9, hs, ?_, ?_⟩
      · first | exact trivial | (simp; omega) | simp
      · simp [Weak, TW, hw, encInts_eq]
  · try simp at h9
    obtain rfl : k = l.length := by omega
    simp [hasF] at hs
    refine AWp.exit ?_
    repeat first | refine thenN ?_ | refine thenX ?_ | refine thenR ?_ | refine blockN ?_ | refine blockR ?_ | refine blockX ?_ | refine blockM rfl ?_
    -- region 6
    refine AWp.rseq E_ok [0, 1, 4, 5, 9, 17] fun K hK => ?_
    simp [encInts_eq, h9]
    repeat refine ⟨by first | omega | assumption | (simp only [maxLen]; omega) | (intros; omega) | decide, ?_⟩
    refine hK _ ?_
    clear hK K
    refine AWp.ret ?_
    repeat first | refine thenN ?_ | refine thenX ?_ | refine thenR ?_ | refine blockN ?_ | refine blockR ?_ | refine blockX ?_ | refine blockM rfl ?_
    rw [← hasF_eq]; first | (simp [RetOk, RV, ← hs]; done) | (simp [RetOk, RV, ← hs, h17])
end Go.Proofs.Ytceapemkefaicaa

set_option maxRecDepth 100000
set_option linter.unusedSimpArgs false
set_option linter.unusedVariables false
namespace Go.Proofs.Ytceapemkefaicaa
open Go Ab Pl
theorem ref36_Right (p : Pat) : ACalls E.P 45 [encPat p] (.d (.int .i64 (patR p))) := by
  refine ACalls.intro E_ok Try.func45 rfl rfl Try.ntmps45 Try.results45 (Nat.le_of_ble_eq_true rfl) fun hok base S0 w0 => ?_
  have hl2 : p.dbl.length ≤ 9223372036854775807 := by have := Ok_agg (hok (encPat p) (by simp)) (encInts p.dbl) (by simp); have := (Ok_slice this).1; simpa using this
  -- region 0
  refine AWp.rseq E_ok [0, 1, 2, 3, 4, 32, 40, 45, 51, 72, 81, 86, 96] fun K hK => ?_
  simp [encPat_eq, encInts_eq]
  repeat refine ⟨by first | omega | assumption | (simp only [maxLen]; omega) | (intros; omega) | decide, ?_⟩
  refine hK _ ?_
  clear hK K
  refine AWp.seq ?_
  -- region 1
  refine AWp.rseq E_ok [0, 1, 2, 3, 4, 32, 40, 45, 51, 72, 81, 86, 96] fun K hK => ?_
  simp [encPat_eq, encInts_eq]
  repeat refine ⟨by first | omega | assumption | (simp only [maxLen]; omega) | (intros; omega) | decide, ?_⟩
  refine hK _ ?_
  clear hK K
  refine AWp.cond rfl (fun h32 => ?_) (fun h32 => ?_)
  · try simp at h32
    have hb : patR p = 2 := if_pos (by omega)
    -- region 2
    refine AWp.rseq E_ok [0, 1, 2, 3, 4, 32, 40, 45, 51, 72, 81, 86, 96] fun K hK => ?_
    simp [encPat_eq, encInts_eq]
    repeat refine ⟨by first | omega | assumption | (simp only [maxLen]; omega) | (intros; omega) | decide, ?_⟩
    refine hK _ ?_
    clear hK K
    refine AWp.ret ?_
    repeat first | refine thenN ?_ | refine thenX ?_ | refine thenR ?_ | refine blockN ?_ | refine blockR ?_ | refine blockX ?_ | refine blockM rfl ?_
    simp [RetOk, RV, hb]
  · try simp at h32
    refine AWp.skip ?_
    repeat first | refine thenN ?_ | refine thenX ?_ | refine thenR ?_ | refine blockN ?_ | refine blockR ?_ | refine blockX ?_ | refine blockM rfl ?_
    refine AWp.seq ?_
    -- region 3
    refine AWp.rseq E_ok [0, 1, 2, 3, 4, 32, 40, 45, 51, 72, 81, 86, 96] fun K hK => ?_
    simp [encPat_eq, encInts_eq]
    repeat refine ⟨by first | omega | assumption | (simp only [maxLen]; omega) | (intros; omega) | decide, ?_⟩
    refine hK _ ?_
    clear hK K
    refine AWp.cond rfl (fun h40 => ?_) (fun h40 => ?_)
    · try simp at h40
      have hb : patR p = 1 := by unfold patR; rw [if_neg (by omega), if_pos (by omega)]
      -- region 4
      refine AWp.rseq E_ok [0, 1, 2, 3, 4, 32, 40, 45, 51, 72, 81, 86, 96] fun K hK => ?_
      simp [encPat_eq, encInts_eq]
      repeat refine ⟨by first | omega | assumption | (simp only [maxLen]; omega) | (intros; omega) | decide, ?_⟩
      refine hK _ ?_
      clear hK K
      refine AWp.ret ?_
      repeat first | refine thenN ?_ | refine thenX ?_ | refine thenR ?_ | refine blockN ?_ | refine blockR ?_ | refine blockX ?_ | refine blockM rfl ?_
      simp [RetOk, RV, hb]
    · try simp at h40
      refine AWp.skip ?_
      repeat first | refine thenN ?_ | refine thenX ?_ | refine thenR ?_ | refine blockN ?_ | refine blockR ?_ | refine blockX ?_ | refine blockM rfl ?_
      -- region 5
      refine AWp.rseq E_ok [0, 1, 2, 3, 4, 32, 40, 45, 51, 72, 81, 86, 96] fun K hK => ?_
      simp [encPat_eq, encInts_eq]
      repeat refine ⟨by first | omega | assumption | (simp only [maxLen]; omega) | (intros; omega) | decide, ?_⟩
      refine meet.of (ref36_months p.skip) ?_
      simp [encPat_eq, encInts_eq]
      repeat refine ⟨by first | omega | assumption | (simp only [maxLen]; omega) | (intros; omega) | decide, ?_⟩
      refine hK _ ?_
      clear hK K
      refine AWp.seq ?_
      -- region 6
      refine AWp.rseq E_ok [0, 1, 2, 3, 4, 32, 40, 45, 51, 72, 81, 86, 96] fun K hK => ?_
      simp [encPat_eq, encInts_eq]
      repeat refine ⟨by first | omega | assumption | (simp only [maxLen]; omega) | (intros; omega) | decide, ?_⟩
      refine hK _ ?_
      clear hK K
      refine AWp.cond rfl (fun h45 => ?_) (fun h45 => ?_)
      · try simp at h45
        have hb : patR p = monR p.skip := by unfold patR; rw [if_neg (by omega), if_neg (by omega), if_pos h45]
        -- region 7
        refine AWp.rseq E_ok [0, 1, 2, 3, 4, 32, 40, 45, 51, 72, 81, 86, 96] fun K hK => ?_
        simp [encPat_eq, encInts_eq]
        repeat refine ⟨by first | omega | assumption | (simp only [maxLen]; omega) | (intros; omega) | decide, ?_⟩
        refine hK _ ?_
        clear hK K
        refine AWp.ret ?_
        repeat first | refine thenN ?_ | refine thenX ?_ | refine thenR ?_ | refine blockN ?_ | refine blockR ?_ | refine blockX ?_ | refine blockM rfl ?_
        simp [RetOk, RV, hb]
      · try simp at h45
        refine AWp.skip ?_
        repeat first | refine thenN ?_ | refine thenX ?_ | refine thenR ?_ | refine blockN ?_ | refine blockR ?_ | refine blockX ?_ | refine blockM rfl ?_
        -- region 8
        refine AWp.rseq E_ok [0, 1, 2, 3, 4, 32, 40, 45, 51, 72, 81, 86, 96] fun K hK => ?_
        simp [encPat_eq, encInts_eq]
        repeat refine ⟨by first | omega | assumption | (simp only [maxLen]; omega) | (intros; omega) | decide, ?_⟩
        refine meet.of (ref36_months p.dbl) ?_
        simp [encPat_eq, encInts_eq]
        repeat refine ⟨by first | omega | assumption | (simp only [maxLen]; omega) | (intros; omega) | decide, ?_⟩
        refine hK _ ?_
        clear hK K
        refine AWp.seq ?_
        -- region 9
        refine AWp.rseq E_ok [0, 1, 2, 3, 4, 32, 40, 45, 51, 72, 81, 86, 96] fun K hK => ?_
        simp [encPat_eq, encInts_eq]
        repeat refine ⟨by first | omega | assumption | (simp only [maxLen]; omega) | (intros; omega) | decide, ?_⟩
        refine hK _ ?_
        clear hK K
        refine AWp.cond rfl (fun h51 => ?_) (fun h51 => ?_)
        · try simp at h51
          have hb : patR p = monR p.dbl := by unfold patR; rw [if_neg (by omega), if_neg (by omega), if_neg (by omega), if_pos h51]
          -- region 10
          refine AWp.rseq E_ok [0, 1, 2, 3, 4, 32, 40, 45, 51, 72, 81, 86, 96] fun K hK => ?_
          simp [encPat_eq, encInts_eq]
          repeat refine ⟨by first | omega | assumption | (simp only [maxLen]; omega) | (intros; omega) | decide, ?_⟩
          refine hK _ ?_
          clear hK K
          refine AWp.ret ?_
          repeat first | refine thenN ?_ | refine thenX ?_ | refine thenR ?_ | refine blockN ?_ | refine blockR ?_ | refine blockX ?_ | refine blockM rfl ?_
          simp [RetOk, RV, hb]
        · try simp at h51
          refine AWp.skip ?_
          repeat first | refine thenN ?_ | refine thenX ?_ | refine thenR ?_ | refine blockN ?_ | refine blockR ?_ | refine blockX ?_ | refine blockM rfl ?_
          refine AWp.seq ?_
          -- region 11
          refine AWp.rseq E_ok [0, 1, 2, 3, 4, 32, 40, 45, 51, 72, 81, 86, 96] fun K hK => ?_
          simp [encPat_eq, encInts_eq]
          repeat refine ⟨by first | omega | assumption | (simp only [maxLen]; omega) | (intros; omega) | decide, ?_⟩
          refine hK _ ?_
          clear hK K
          refine AWp.cond rfl (fun h72 => ?_) (fun h72 => ?_)
          · try simp at h72
            have hb : patR p = 1 := by unfold patR; rw [if_neg (by omega), if_neg (by omega), if_neg (by omega), if_neg (by omega), if_pos (by omega)]
            -- region 12
            refine AWp.rseq E_ok [0, 1, 2, 3, 4, 32, 40, 45, 51, 72, 81, 86, 96] fun K hK => ?_
            simp [encPat_eq, encInts_eq]
            repeat refine ⟨by first | omega | assumption | (simp only [maxLen]; omega) | (intros; omega) | decide, ?_⟩
            refine hK _ ?_
            clear hK K
            refine AWp.ret ?_
            repeat first | refine thenN ?_ | refine thenX ?_ | refine thenR ?_ | refine blockN ?_ | refine blockR ?_ | refine blockX ?_ | refine blockM rfl ?_
            simp [RetOk, RV, hb]
          · try simp at h72
            refine AWp.skip ?_
            repeat first | refine thenN ?_ | refine thenX ?_ | refine thenR ?_ | refine blockN ?_ | refine blockR ?_ | refine blockX ?_ | refine blockM rfl ?_
            refine AWp.seq ?_
            -- region 13
            refine AWp.rseq E_ok [0, 1, 2, 3, 4, 32, 40, 45, 51, 72, 81, 86, 96] fun K hK => ?_
            simp [encPat_eq, encInts_eq]
            repeat refine ⟨by first | omega | assumption | (simp only [maxLen]; omega) | (intros; omega) | decide, ?_⟩
            refine hK _ ?_
            clear hK K
            refine AWp.cond rfl (fun h81 => ?_) (fun h81 => ?_)
            · try simp at h81
              have hb : patR p = 1 := by unfold patR; rw [if_neg (by omega), if_neg (by omega), if_neg (by omega), if_neg (by omega), if_pos (by omega)]
              -- region 14
              refine AWp.rseq E_ok [0, 1, 2, 3, 4, 32, 40, 45, 51, 72, 81, 86, 96] fun K hK => ?_
              simp [encPat_eq, encInts_eq]
              repeat refine ⟨by first | omega | assumption | (simp only [maxLen]; omega) | (intros; omega) | decide, ?_⟩
              refine hK _ ?_
              clear hK K
              refine AWp.ret ?_
              repeat first | refine thenN ?_ | refine thenX ?_ | refine thenR ?_ | refine blockN ?_ | refine blockR ?_ | refine blockX ?_ | refine blockM rfl ?_
              simp [RetOk, RV, hb]
            · try simp at h81
              have hlast : patR p = if (p.dbl.any fun m => p.skip.contains m) = true then 1 else 0 := by unfold patR; rw [if_neg (by omega), if_neg (by omega), if_neg (by omega), if_neg (by omega), if_neg (by omega)]
              refine AWp.skip ?_
              repeat first | refine thenN ?_ | refine thenX ?_ | refine thenR ?_ | refine blockN ?_ | refine blockR ?_ | refine blockX ?_ | refine blockM rfl ?_
              refine AWp.seq ?_
              -- region 15
              refine AWp.rseq E_ok [0, 1, 2, 3, 4, 32, 40, 45, 51, 72, 81, 86, 96] fun K hK => ?_
              simp [encPat_eq, encInts_eq]
              repeat refine ⟨by first | omega | assumption | (simp only [maxLen]; omega) | (intros; omega) | decide, ?_⟩
              refine hK _ ?_
              clear hK K
              refine AWp.block ?_
              refine AWp.range (l := p.dbl) (F := anyMo p.skip) (tot := anyMo p.skip () p.dbl) (fun k y => match y with | () => True) (fun k y => match y with | () => [(0, T.val (D.agg [D.int IntKind.i64 p.start, D.int IntKind.i64 p.every, D.int IntKind.i64 p.per, D.int IntKind.i64 p.first, (D.int IntKind.i64 0).slice (List.map (D.int IntKind.i64) p.skip), (D.int IntKind.i64 0).slice (List.map (D.int IntKind.i64) p.dbl)])), (1, T.box [C.d (D.int IntKind.i64 p.start), C.d (D.int IntKind.i64 p.every), C.d (D.int IntKind.i64 p.per), C.d (D.int IntKind.i64 p.first), C.d ((D.int IntKind.i64 0).slice (List.map (D.int IntKind.i64) p.skip)), C.d ((D.int IntKind.i64 0).slice (List.map (D.int IntKind.i64) p.dbl))]), (4, T.val (.int .i64 k))]) () ?_ rfl ?_ ?_
              · simp [Weak, TW, encPat_eq, encInts_eq]
              · first | exact trivial | (simp; omega) | simp
              rintro k ⟨⟩ hk hs hi
              try simp only at hi
              refine AWp.seq ?_
              -- region 16
              refine AWp.rseq E_ok [0, 1, 2, 3, 4, 32, 40, 45, 51, 72, 81, 86, 96] fun K hK => ?_
              simp [encPat_eq, encInts_eq]
              repeat refine ⟨by first | omega | assumption | (simp only [maxLen]; omega) | (intros; omega) | decide, ?_⟩
              refine hK _ ?_
              clear hK K
              refine AWp.cond rfl (fun h86 => ?_) (fun h86 => ?_)
              · try simp at h86
                obtain ⟨x, hx, hxx, hd⟩ := at_indexG (l := p.dbl) h86
                rw [hd] at hs
                refine AWp.skip ?_
                repeat first | refine thenN ?_ | refine thenX ?_ | refine thenR ?_ | refine blockN ?_ | refine blockR ?_ | refine blockX ?_ | refine blockM rfl ?_
                refine AWp.seq ?_
                refine AWp.block ?_
                -- region 18
                refine AWp.rseqQ E_ok mixed [0, 1, 2, 3, 4, 32, 40, 45, 51, 72, 81, 86, 96] (by kernel_rfl) fun K hK => ?_
                simp [encPat_eq, encInts_eq, h86, hx, hxx]
                repeat refine ⟨by first | omega | assumption | (simp only [maxLen]; omega) | (intros; omega) | decide, ?_⟩
                refine meet.of (ref36_in p.skip x) ?_
                simp [encPat_eq, encInts_eq, h86, hx, hxx]
                repeat refine ⟨by first | omega | assumption | (simp only [maxLen]; omega) | (intros; omega) | decide, ?_⟩
                refine hK _ ?_
                clear hK K
                refine AWp.cond rfl (fun h96 => ?_) (fun h96 => ?_)
                · try simp at h96
                  rw [anyMo, if_pos (by simpa using h96)] at hs
                  have hb : patR p = 1 := by rw [hlast, ← anyMo_eq, ← hs]; rfl
                  -- region 19
                  refine AWp.rseq E_ok [0, 1, 2, 3, 4, 32, 40, 45, 51, 72, 81, 86, 96] fun K hK => ?_
                  simp [encPat_eq, encInts_eq, h86, hx, hxx]
                  repeat refine ⟨by first | omega | assumption | (simp only [maxLen]; omega) | (intros; omega) | decide, ?_⟩
                  refine hK _ ?_
                  clear hK K
                  refine AWp.ret ?_
                  repeat first | refine thenN ?_ | refine thenX ?_ | refine thenR ?_ | refine blockN ?_ | refine blockR ?_ | refine blockX ?_ | refine blockM rfl ?_
                  simp [RetOk, RV, hb]
                · try simp at h96
                  rw [anyMo, if_neg (by simpa using h96)] at hs
                  refine AWp.skip ?_
                  repeat first | refine thenN ?_ | refine thenX ?_ | refine thenR ?_ | refine blockN ?_ | refine blockR ?_ | refine blockX ?_ | refine blockM rfl ?_
                  -- region 17
                  refine AWp.rend E_ok [0, 1, 2, 3, 4, 32, 40, 45, 51, 72, 81, 86, 96] fun K hK => ?_
                  simp [encPat_eq, encInts_eq, h86, hx, hxx]
                  repeat refine ⟨by first | omega | assumption | (simp only [maxLen]; omega) | (intros; omega) | decide, ?_⟩
                  refine hK _ ?_
                  clear hK K
                  repeat first | refine thenN ?_ | refine thenX ?_ | refine thenR ?_ | refine blockN ?_ | refine blockR ?_ | refine blockX ?_ | refine blockM rfl ?_
                  have hw : IntKind.i64.wrap ((k : Int) + 1) = (k : Int) + 1 := by rw [wrap_i64] <;> omega
                  skip
                  refine ⟨_, h86, hs, ?_, ?_⟩
                  · first | exact trivial | (simp; omega) | simp
                  · simp [Weak, TW, hw, encPat_eq, encInts_eq]
              · try simp at h86
                obtain rfl : k = p.dbl.length := by omega
                simp [anyMo] at hs
                have hb : patR p = 0 := by rw [hlast, ← anyMo_eq]; simp [hs]
                refine AWp.exit ?_
                repeat first | refine thenN ?_ | refine thenX ?_ | refine thenR ?_ | refine blockN ?_ | refine blockR ?_ | refine blockX ?_ | refine blockM rfl ?_
                -- region 20
                refine AWp.rseq E_ok [0, 1, 2, 3, 4, 32, 40, 45, 51, 72, 81, 86, 96] fun K hK => ?_
                simp [encPat_eq, encInts_eq, h86]
                repeat refine ⟨by first | omega | assumption | (simp only [maxLen]; omega) | (intros; omega) | decide, ?_⟩
                refine hK _ ?_
                clear hK K
                refine AWp.ret ?_
                repeat first | refine thenN ?_ | refine thenX ?_ | refine thenR ?_ | refine blockN ?_ | refine blockR ?_ | refine blockX ?_ | refine blockM rfl ?_
                simp [RetOk, RV, hb]
end Go.Proofs.Ytceapemkefaicaa

set_option maxRecDepth 100000
set_option linter.unusedSimpArgs false
set_option linter.unusedVariables false
namespace Go.Proofs.Ytceapemkefaicaa
open Go Ab Pl
theorem ref03_Is (n : Int) : ACalls E.P 88 [.int .i64 n] (.d (.bool (isDay n))) := by
  refine ACalls.intro E_ok Try.func88 rfl rfl Try.ntmps88 Try.results88 (Nat.le_of_ble_eq_true rfl) fun hok base S0 w0 => ?_
  -- region 0
  refine AWp.rseq E_ok [0, 2] fun K hK => ?_
  simp
  repeat refine ⟨by first | omega | assumption | (simp only [maxLen]; omega) | (intros; omega) | decide, ?_⟩
  refine hK _ ?_
  clear hK K
  -- region 1
  refine AWp.rseq E_ok [0, 2] fun K hK => ?_
  simp
  repeat refine ⟨by first | omega | assumption | (simp only [maxLen]; omega) | (intros; omega) | decide, ?_⟩
  refine hK _ ?_
  clear hK K
  refine AWp.ret ?_
  repeat first | refine thenN ?_ | refine thenX ?_ | refine thenR ?_ | refine blockN ?_ | refine blockR ?_ | refine blockX ?_ | refine blockM rfl ?_
  simp [RetOk, RV, isDay]
end Go.Proofs.Ytceapemkefaicaa

set_option maxRecDepth 100000
set_option linter.unusedSimpArgs false
set_option linter.unusedVariables false
namespace Go.Proofs.Ytceapemkefaicaa
open Go Ab Pl
theorem ref03_Length (y m : Int) : ACalls E.P 90 [.int .i64 y, .int .i64 m] (.d (.int .i64 (mlenD y m))) := by
  refine ACalls.intro E_ok Try.func90 rfl rfl Try.ntmps90 Try.results90 (Nat.le_of_ble_eq_true rfl) fun hok base S0 w0 => ?_
  -- region 0
  refine AWp.rseq E_ok [0, 1, 4, 5, 19, 34] fun K hK => ?_
  simp
  repeat refine ⟨by first | omega | assumption | (simp only [maxLen]; omega) | (intros; omega) | decide, ?_⟩
  refine hK _ ?_
  clear hK K
  refine AWp.seq ?_
  -- region 1
  refine AWp.rseq E_ok [0, 1, 4, 5, 19, 34] fun K hK => ?_
  simp
  repeat refine ⟨by first | omega | assumption | (simp only [maxLen]; omega) | (intros; omega) | decide, ?_⟩
  refine hK _ ?_
  clear hK K
  refine AWp.cond rfl (fun h19 => ?_) (fun h19 => ?_)
  · try simp at h19
    -- region 2
    refine AWp.rseq E_ok [0, 1, 4, 5, 19, 34] fun K hK => ?_
    simp
    repeat refine ⟨by first | omega | assumption | (simp only [maxLen]; omega) | (intros; omega) | decide, ?_⟩
    refine hK _ ?_
    clear hK K
    refine AWp.ret ?_
    repeat first | refine thenN ?_ | refine thenX ?_ | refine thenR ?_ | refine blockN ?_ | refine blockR ?_ | refine blockX ?_ | refine blockM rfl ?_
    first | (rw [mlen_out (by omega)]; simp [RetOk, RV, RVs]; done) | (rw [hq]; simp [RetOk, RV, RVs]; done)
  · try simp at h19
    refine AWp.skip ?_
    repeat first | refine thenN ?_ | refine thenX ?_ | refine thenR ?_ | refine blockN ?_ | refine blockR ?_ | refine blockX ?_ | refine blockM rfl ?_
    refine AWp.seq ?_
    -- region 3
    refine AWp.rseq E_ok [0, 1, 4, 5, 19, 34] fun K hK => ?_
    simp
    repeat refine ⟨by first | omega | assumption | (simp only [maxLen]; omega) | (intros; omega) | decide, ?_⟩
    refine hK _ ?_
    clear hK K
    refine AWp.cond rfl (fun h34 => ?_) (fun h34 => ?_)
    · try simp at h34
      have hlp := (leap_iff (y := y) (by omega) (by omega)).2
      have ht : y.tmod 4 = y % 4 := Int.tmod_eq_emod_of_nonneg (by omega)
      have hq := mlen_29 (y := y) (m := m) (by omega) (by omega) (by omega) (hlp (by omega))
      -- region 4
      refine AWp.rseq E_ok [0, 1, 4, 5, 19, 34] fun K hK => ?_
      simp
      repeat refine ⟨by first | omega | assumption | (simp only [maxLen]; omega) | (intros; omega) | decide, ?_⟩
      refine hK _ ?_
      clear hK K
      refine AWp.ret ?_
      repeat first | refine thenN ?_ | refine thenX ?_ | refine thenR ?_ | refine blockN ?_ | refine blockR ?_ | refine blockX ?_ | refine blockM rfl ?_
      first | (rw [mlen_out (by omega)]; simp [RetOk, RV, RVs]; done) | (rw [hq]; simp [RetOk, RV, RVs]; done)
    · try simp at h34
      have hlp := (leap_iff (y := y) (by omega) (by omega)).1
      have ht : y.tmod 4 = y % 4 := Int.tmod_eq_emod_of_nonneg (by omega)
      have hq := mlen_tbl (y := y) (m := m) (by omega) (by omega) (by omega) (by omega) (fun hh => by have := hlp hh.2; omega)
      have e1 : IntKind.i64.wrap (m - 1) = m - 1 := by rw [wrap_i64] <;> omega
      have tg := tbl_row (m := m) (by omega)
      refine AWp.skip ?_
      repeat first | refine thenN ?_ | refine thenX ?_ | refine thenR ?_ | refine blockN ?_ | refine blockR ?_ | refine blockX ?_ | refine blockM rfl ?_
      -- region 5
      refine AWp.rseq E_ok [0, 1, 4, 5, 19, 34] fun K hK => ?_
      simp [e1, tg]
      repeat refine ⟨by first | omega | assumption | (simp only [maxLen]; omega) | (intros; omega) | decide, ?_⟩
      refine hK _ ?_
      clear hK K
      -- region 6
      refine AWp.rseq E_ok [0, 1, 4, 5, 19, 34] fun K hK => ?_
      simp [e1, tg]
      repeat refine ⟨by first | omega | assumption | (simp only [maxLen]; omega) | (intros; omega) | decide, ?_⟩
      refine hK _ ?_
      clear hK K
      refine AWp.ret ?_
      repeat first | refine thenN ?_ | refine thenX ?_ | refine thenR ?_ | refine blockN ?_ | refine blockR ?_ | refine blockX ?_ | refine blockM rfl ?_
      first | (rw [mlen_out (by omega)]; simp [RetOk, RV, RVs]; done) | (rw [hq]; simp [RetOk, RV, RVs]; done)
end Go.Proofs.Ytceapemkefaicaa

set_option maxRecDepth 100000
set_option linter.unusedSimpArgs false
set_option linter.unusedVariables false
namespace Go.Proofs.Ytceapemkefaicaa
open Go Ab Pl
theorem ref03_Year (y : Int) (hy : 1900 ≤ y ∧ y ≤ 2199) : ACalls E.P 89 [.int .i64 y] (.d (.int .i64 (yearD y))) := by
  refine ACalls.intro E_ok Try.func89 rfl rfl Try.ntmps89 Try.results89 (Nat.le_of_ble_eq_true rfl) fun hok base S0 w0 => ?_
  have hl : (mlenD y 2 = 29) ↔ leapB y = true := by rw [mlen_ok hy.1 hy.2 (by omega) (by omega)]; cases leapB y <;> simp [tblD]
  -- region 0
  refine AWp.rseq E_ok [0, 2, 5] fun K hK => ?_
  simp
  repeat refine ⟨by first | omega | assumption | (simp only [maxLen]; omega) | (intros; omega) | decide, ?_⟩
  refine hK _ ?_
  clear hK K
  refine AWp.seq ?_
  -- region 1
  refine AWp.rseq E_ok [0, 2, 5] fun K hK => ?_
  simp
  repeat refine ⟨by first | omega | assumption | (simp only [maxLen]; omega) | (intros; omega) | decide, ?_⟩
  refine meet.of (ref03_Length y 2) ?_
  simp
  repeat refine ⟨by first | omega | assumption | (simp only [maxLen]; omega) | (intros; omega) | decide, ?_⟩
  refine hK _ ?_
  clear hK K
  refine AWp.cond rfl (fun h5 => ?_) (fun h5 => ?_)
  · try simp at h5
    -- region 2
    refine AWp.rseq E_ok [0, 2, 5] fun K hK => ?_
    simp [h5]
    repeat refine ⟨by first | omega | assumption | (simp only [maxLen]; omega) | (intros; omega) | decide, ?_⟩
    refine hK _ ?_
    clear hK K
    refine AWp.ret ?_
    repeat first | refine thenN ?_ | refine thenX ?_ | refine thenR ?_ | refine blockN ?_ | refine blockR ?_ | refine blockX ?_ | refine blockM rfl ?_
    first | (simp [RetOk, RV, RVs, yearD, hl.1 h5]; done) | (simp [RetOk, RV, RVs, yearD, mt hl.2 h5])
  · try simp at h5
    refine AWp.skip ?_
    repeat first | refine thenN ?_ | refine thenX ?_ | refine thenR ?_ | refine blockN ?_ | refine blockR ?_ | refine blockX ?_ | refine blockM rfl ?_
    -- region 3
    refine AWp.rseq E_ok [0, 2, 5] fun K hK => ?_
    simp [h5]
    repeat refine ⟨by first | omega | assumption | (simp only [maxLen]; omega) | (intros; omega) | decide, ?_⟩
    refine hK _ ?_
    clear hK K
    refine AWp.ret ?_
    repeat first | refine thenN ?_ | refine thenX ?_ | refine thenR ?_ | refine blockN ?_ | refine blockR ?_ | refine blockX ?_ | refine blockM rfl ?_
    first | (simp [RetOk, RV, RVs, yearD, hl.1 h5]; done) | (simp [RetOk, RV, RVs, yearD, mt hl.2 h5])
end Go.Proofs.Ytceapemkefaicaa

set_option maxRecDepth 100000
set_option linter.unusedSimpArgs false
set_option linter.unusedVariables false
namespace Go.Proofs.Ytceapemkefaicaa
open Go Ab Pl
theorem ref03_Parts (day : Int) : ACalls E.P 84 [.int .i64 day] (.tup [.int .i64 (partsR day).1, .int .i64 (partsR day).2.1, .int .i64 (partsR day).2.2.1, .int .i64 (partsR day).2.2.2]) := by
  refine ACalls.intro E_ok Try.func84 rfl rfl Try.ntmps84 Try.results84 (Nat.le_of_ble_eq_true rfl) fun hok base S0 w0 => ?_
  -- region 0
  refine AWp.rseq E_ok [0, 2, 3, 4, 5, 6, 7, 10, 14, 25] fun K hK => ?_
  simp [isDay, ny_first, bef_first]
  try simp (disch := omega) only [wrap_i64]
  repeat refine ⟨by first | omega | assumption | (simp only [maxLen]; omega) | (intros; omega) | decide, ?_⟩
  refine hK _ ?_
  clear hK K
  refine AWp.seq ?_
  -- region 1
  refine AWp.rseq E_ok [0, 2, 3, 4, 5, 6, 7, 10, 14, 25] fun K hK => ?_
  simp [isDay, ny_first, bef_first]
  try simp (disch := omega) only [wrap_i64]
  repeat refine ⟨by first | omega | assumption | (simp only [maxLen]; omega) | (intros; omega) | decide, ?_⟩
  refine meet.of (ref03_Is day) ?_
  simp [isDay, ny_first, bef_first]
  try simp (disch := omega) only [wrap_i64]
  repeat refine ⟨by first | omega | assumption | (simp only [maxLen]; omega) | (intros; omega) | decide, ?_⟩
  refine hK _ ?_
  clear hK K
  refine AWp.cond rfl (fun h10 => ?_) (fun h10 => ?_)
  · try simp at h10
    -- region 2
    refine AWp.rseq E_ok [0, 2, 3, 4, 5, 6, 7, 10, 14, 25] fun K hK => ?_
    simp [isDay, ny_first, bef_first]
    try simp (disch := omega) only [wrap_i64]
    repeat refine ⟨by first | omega | assumption | (simp only [maxLen]; omega) | (intros; omega) | decide, ?_⟩
    refine hK _ ?_
    clear hK K
    refine AWp.ret ?_
    repeat first | refine thenN ?_ | refine thenX ?_ | refine thenR ?_ | refine blockN ?_ | refine blockR ?_ | refine blockX ?_ | refine blockM rfl ?_
    first | (rw [partsR_bad (by omega)]; simp [RetOk, RV, RVs]; done) | (rw [partsR_ok (by omega)]; simp [RetOk, RV, RVs, hp])
  · try simp at h10
    refine AWp.skip ?_
    repeat first | refine thenN ?_ | refine thenX ?_ | refine thenR ?_ | refine blockN ?_ | refine blockR ?_ | refine blockX ?_ | refine blockM rfl ?_
    -- region 3
    refine AWp.rseq E_ok [0, 2, 3, 4, 5, 6, 7, 10, 14, 25] fun K hK => ?_
    simp [isDay, ny_first, bef_first]
    try simp (disch := omega) only [wrap_i64]
    repeat refine ⟨by first | omega | assumption | (simp only [maxLen]; omega) | (intros; omega) | decide, ?_⟩
    refine hK _ ?_
    clear hK K
    refine AWp.seq ?_
    refine AWp.block ?_
    refine AWp.loop (ι := { y : Int // 1900 ≤ y ∧ y ≤ 2199 ∧ nyD y ≤ day }) (fun x => match x with | ⟨y, hy⟩ => [(0, T.val (.int .i64 (day - nyD y))), (6, T.val (.int .i64 y)), (7, T.val (D.int IntKind.i64 1))]) (fun x => match x with | ⟨y, hy⟩ => (2200 - y).toNat) ⟨1900, by omega, by omega, by rw [ny_first]; omega⟩ ?_ ?_
    · simp [Weak, TW, isDay, ny_first, bef_first]
    rintro ⟨y, hy⟩
    simp only
    try simp only at hy
    refine AWp.seq ?_
    -- region 4
    have yp := year_pos y
    have nr := ny_rng hy.1 (by omega)
    have st := ny_step hy.1 hy.2.1
    refine AWp.rseq E_ok [0, 2, 3, 4, 5, 6, 7, 10, 14, 25] fun K hK => ?_
    simp [isDay, ny_first, bef_first]
    try simp (disch := omega) only [wrap_i64]
    repeat refine ⟨by first | omega | assumption | (simp only [maxLen]; omega) | (intros; omega) | decide, ?_⟩
    refine meet.of (ref03_Year y (by omega)) ?_
    simp [isDay, ny_first, bef_first]
    try simp (disch := omega) only [wrap_i64]
    repeat refine ⟨by first | omega | assumption | (simp only [maxLen]; omega) | (intros; omega) | decide, ?_⟩
    refine hK _ ?_
    clear hK K
    refine AWp.cond rfl (fun h14 => ?_) (fun h14 => ?_)
    · try simp at h14
      refine AWp.skip ?_
      repeat first | refine thenN ?_ | refine thenX ?_ | refine thenR ?_ | refine blockN ?_ | refine blockR ?_ | refine blockX ?_ | refine blockM rfl ?_
      refine AWp.block ?_
      -- region 5
      refine AWp.rseq E_ok [0, 2, 3, 4, 5, 6, 7, 10, 14, 25] fun K hK => ?_
      simp [isDay, ny_first, bef_first]
      try simp (disch := omega) only [wrap_i64]
      repeat refine ⟨by first | omega | assumption | (simp only [maxLen]; omega) | (intros; omega) | decide, ?_⟩
      refine meet.of (ref03_Year y (by omega)) ?_
      simp [isDay, ny_first, bef_first]
      try simp (disch := omega) only [wrap_i64]
      repeat refine ⟨by first | omega | assumption | (simp only [maxLen]; omega) | (intros; omega) | decide, ?_⟩
      refine hK _ ?_
      clear hK K
      -- region 6
      refine AWp.rend E_ok [0, 2, 3, 4, 5, 6, 7, 10, 14, 25] fun K hK => ?_
      simp [isDay, ny_first, bef_first]
      try simp (disch := omega) only [wrap_i64]
      repeat refine ⟨by first | omega | assumption | (simp only [maxLen]; omega) | (intros; omega) | decide, ?_⟩
      refine hK _ ?_
      clear hK K
      repeat first | refine thenN ?_ | refine thenX ?_ | refine thenR ?_ | refine blockN ?_ | refine blockR ?_ | refine blockX ?_ | refine blockM rfl ?_
      have hy2 : y ≤ 2198 := by rcases (show y ≤ 2198 ∨ y = 2199 by omega) with hh | hh <;> first | exact hh | (exfalso; subst hh; rw [show (2199 : Int) + 1 = 2200 from rfl, ny_end] at st; omega)
      refine ⟨⟨y + 1, by omega, by omega, by omega⟩, ?_, by simp only; omega⟩
      try simp (disch := omega) only [wrap_i64]
      simp [Weak, TW, st]
      omega
    · try simp at h14
      have be := bef_end hy.1 hy.2.1
      refine AWp.exit ?_
      repeat first | refine thenN ?_ | refine thenX ?_ | refine thenR ?_ | refine blockN ?_ | refine blockR ?_ | refine blockX ?_ | refine blockM rfl ?_
      refine AWp.seq ?_
      refine AWp.block ?_
      refine AWp.loop (ι := { m : Int // 1 ≤ m ∧ m ≤ 12 ∧ befD y m ≤ day - nyD y }) (fun x => match x with | ⟨m, hm⟩ => [(0, T.val (.int .i64 (day - nyD y - befD y m))), (6, T.val (D.int IntKind.i64 y)), (7, T.val (.int .i64 m))]) (fun x => match x with | ⟨m, hm⟩ => (13 - m).toNat) ⟨1, by omega, by omega, by rw [bef_first]; omega⟩ ?_ ?_
      · simp [Weak, TW, isDay, ny_first, bef_first]
      rintro ⟨m, hm⟩
      simp only
      try simp only at hm
      refine AWp.seq ?_
      -- region 7
      have bm1 := bef_mono (y := y) (m := 1) (n := m) (by omega) (by omega) hm.1
      rw [bef_first] at bm1
      have ml := mlen_rng hy.1 hy.2.1 hm.1 hm.2.1
      refine AWp.rseq E_ok [0, 2, 3, 4, 5, 6, 7, 10, 14, 25] fun K hK => ?_
      simp [isDay, ny_first, bef_first]
      try simp (disch := omega) only [wrap_i64]
      repeat refine ⟨by first | omega | assumption | (simp only [maxLen]; omega) | (intros; omega) | decide, ?_⟩
      refine meet.of (ref03_Length y m) ?_
      simp [isDay, ny_first, bef_first]
      try simp (disch := omega) only [wrap_i64]
      repeat refine ⟨by first | omega | assumption | (simp only [maxLen]; omega) | (intros; omega) | decide, ?_⟩
      refine hK _ ?_
      clear hK K
      refine AWp.cond rfl (fun h25 => ?_) (fun h25 => ?_)
      · try simp at h25
        refine AWp.skip ?_
        repeat first | refine thenN ?_ | refine thenX ?_ | refine thenR ?_ | refine blockN ?_ | refine blockR ?_ | refine blockX ?_ | refine blockM rfl ?_
        refine AWp.block ?_
        -- region 8
        refine AWp.rseq E_ok [0, 2, 3, 4, 5, 6, 7, 10, 14, 25] fun K hK => ?_
        simp [isDay, ny_first, bef_first]
        try simp (disch := omega) only [wrap_i64]
        repeat refine ⟨by first | omega | assumption | (simp only [maxLen]; omega) | (intros; omega) | decide, ?_⟩
        refine meet.of (ref03_Length y m) ?_
        simp [isDay, ny_first, bef_first]
        try simp (disch := omega) only [wrap_i64]
        repeat refine ⟨by first | omega | assumption | (simp only [maxLen]; omega) | (intros; omega) | decide, ?_⟩
        refine hK _ ?_
        clear hK K
        -- region 9
        refine AWp.rend E_ok [0, 2, 3, 4, 5, 6, 7, 10, 14, 25] fun K hK => ?_
        simp [isDay, ny_first, bef_first]
        try simp (disch := omega) only [wrap_i64]
        repeat refine ⟨by first | omega | assumption | (simp only [maxLen]; omega) | (intros; omega) | decide, ?_⟩
        refine hK _ ?_
        clear hK K
        repeat first | refine thenN ?_ | refine thenX ?_ | refine thenR ?_ | refine blockN ?_ | refine blockR ?_ | refine blockX ?_ | refine blockM rfl ?_
        have sb := bef_step hy.1 hy.2.1 hm.1 hm.2.1
        have hm2 : m ≤ 11 := by rcases (show m ≤ 11 ∨ m = 12 by omega) with hh | hh <;> first | exact hh | (exfalso; subst hh; rw [show (12 : Int) + 1 = 13 from rfl, be] at sb; omega)
        refine ⟨⟨m + 1, by omega, by omega, by omega⟩, ?_, by simp only; omega⟩
        try simp (disch := omega) only [wrap_i64]
        simp [Weak, TW, sb]
        omega
      · try simp at h25
        have hp := parts_eq (parts_mk hy.1 hy.2.1 hm.1 hm.2.1 (day := day) (by omega) (by have := bef_step hy.1 hy.2.1 hm.1 hm.2.1; omega))
        refine AWp.exit ?_
        repeat first | refine thenN ?_ | refine thenX ?_ | refine thenR ?_ | refine blockN ?_ | refine blockR ?_ | refine blockX ?_ | refine blockM rfl ?_
        -- region 10
        refine AWp.rseq E_ok [0, 2, 3, 4, 5, 6, 7, 10, 14, 25] fun K hK => ?_
        simp [isDay, ny_first, bef_first]
        try simp (disch := omega) only [wrap_i64]
        repeat refine ⟨by first | omega | assumption | (simp only [maxLen]; omega) | (intros; omega) | decide, ?_⟩
        refine hK _ ?_
        clear hK K
        refine AWp.ret ?_
        repeat first | refine thenN ?_ | refine thenX ?_ | refine thenR ?_ | refine blockN ?_ | refine blockR ?_ | refine blockX ?_ | refine blockM rfl ?_
        first | (rw [partsR_bad (by omega)]; simp [RetOk, RV, RVs]; done) | (rw [partsR_ok (by omega)]; simp [RetOk, RV, RVs, hp])
end Go.Proofs.Ytceapemkefaicaa

set_option maxRecDepth 100000
set_option linter.unusedSimpArgs false
set_option linter.unusedVariables false
namespace Go.Proofs.Ytceapemkefaicaa
open Go Ab Pl
theorem ref03_Of (y m d : Int) : ACalls E.P 95 [.int .i64 y, .int .i64 m, .int .i64 d] (.tup [.int .i64 (ofR y m d).1, .int .i64 (ofR y m d).2]) := by
  refine ACalls.intro E_ok Try.func95 rfl rfl Try.ntmps95 Try.results95 (Nat.le_of_ble_eq_true rfl) fun hok base S0 w0 => ?_
  -- region 0
  refine AWp.rseq E_ok [0, 1, 2, 6, 7, 8, 9, 10, 19, 24, 33] fun K hK => ?_
  simp [ny_first, bef_first]
  repeat refine ⟨by first | omega | assumption | (simp only [maxLen]; omega) | (intros; omega) | decide, ?_⟩
  refine hK _ ?_
  clear hK K
  refine AWp.seq ?_
  -- region 1
  refine AWp.rseq E_ok [0, 1, 2, 6, 7, 8, 9, 10, 19, 24, 33] fun K hK => ?_
  simp [ny_first, bef_first]
  repeat refine ⟨by first | omega | assumption | (simp only [maxLen]; omega) | (intros; omega) | decide, ?_⟩
  refine meet.of (ref03_Length y m) ?_
  simp [ny_first, bef_first]
  repeat refine ⟨by first | omega | assumption | (simp only [maxLen]; omega) | (intros; omega) | decide, ?_⟩
  refine hK _ ?_
  clear hK K
  refine AWp.cond rfl (fun h19 => ?_) (fun h19 => ?_)
  · try simp at h19
    have hb := of_bad h19
    -- region 2
    refine AWp.rseq E_ok [0, 1, 2, 6, 7, 8, 9, 10, 19, 24, 33] fun K hK => ?_
    simp [ny_first, bef_first]
    repeat refine ⟨by first | omega | assumption | (simp only [maxLen]; omega) | (intros; omega) | decide, ?_⟩
    refine hK _ ?_
    clear hK K
    refine AWp.ret ?_
    repeat first | refine thenN ?_ | refine thenX ?_ | refine thenR ?_ | refine blockN ?_ | refine blockR ?_ | refine blockX ?_ | refine blockM rfl ?_
    first | (simp [RetOk, RV, RVs, hb]; done) | (obtain rfl : j = m := (by omega); rw [of_ok (by omega) (by omega)]; simp [RetOk, RV, RVs, dayD]; omega)
  · try simp at h19
    have hin := mlen_in (y := y) (m := m) (d := d) (by omega) (by omega)
    have hd31 := mlen_rng hin.1.1 hin.1.2 hin.2.1 hin.2.2
    have ed : IntKind.i64.wrap (d - 1) = d - 1 := by rw [wrap_i64] <;> omega
    refine AWp.skip ?_
    repeat first | refine thenN ?_ | refine thenX ?_ | refine thenR ?_ | refine blockN ?_ | refine blockR ?_ | refine blockX ?_ | refine blockM rfl ?_
    -- region 3
    refine AWp.rseq E_ok [0, 1, 2, 6, 7, 8, 9, 10, 19, 24, 33] fun K hK => ?_
    simp [ny_first, bef_first, ed]
    repeat refine ⟨by first | omega | assumption | (simp only [maxLen]; omega) | (intros; omega) | decide, ?_⟩
    refine hK _ ?_
    clear hK K
    refine AWp.seq ?_
    -- region 4
    refine AWp.rseq E_ok [0, 1, 2, 6, 7, 8, 9, 10, 19, 24, 33] fun K hK => ?_
    simp [ny_first, bef_first, ed]
    repeat refine ⟨by first | omega | assumption | (simp only [maxLen]; omega) | (intros; omega) | decide, ?_⟩
    refine hK _ ?_
    clear hK K
    refine AWp.block ?_
    refine AWp.loop (ι := { k : Int // 1900 ≤ k ∧ k ≤ y }) (fun x => match x with | ⟨i, hi, hi2⟩ => [(0, T.val (D.int IntKind.i64 y)), (1, T.val (D.int IntKind.i64 m)), (2, T.val (D.int IntKind.i64 d)), (8, T.val (.int .i64 (d - 1 + nyD i))), (9, T.val (.int .i64 i))]) (fun x => match x with | ⟨i, hi, hi2⟩ => (y - i).toNat) ⟨1900, Int.le_refl _, hin.1.1⟩ ?_ ?_
    · simp [Weak, TW, ny_first, bef_first]
    rintro ⟨i, hi, hi2⟩
    simp only
    try simp only at hi
    try simp only at hi2
    refine AWp.seq ?_
    -- region 5
    refine AWp.rseq E_ok [0, 1, 2, 6, 7, 8, 9, 10, 19, 24, 33] fun K hK => ?_
    simp [ny_first, bef_first, ed]
    repeat refine ⟨by first | omega | assumption | (simp only [maxLen]; omega) | (intros; omega) | decide, ?_⟩
    refine hK _ ?_
    clear hK K
    refine AWp.cond rfl (fun h24 => ?_) (fun h24 => ?_)
    · try simp at h24
      refine AWp.skip ?_
      repeat first | refine thenN ?_ | refine thenX ?_ | refine thenR ?_ | refine blockN ?_ | refine blockR ?_ | refine blockX ?_ | refine blockM rfl ?_
      refine AWp.seq ?_
      refine AWp.block ?_
      -- region 7
      refine AWp.rend E_ok [0, 1, 2, 6, 7, 8, 9, 10, 19, 24, 33] fun K hK => ?_
      simp [ny_first, bef_first, ed]
      repeat refine ⟨by first | omega | assumption | (simp only [maxLen]; omega) | (intros; omega) | decide, ?_⟩
      refine meet.of (ref03_Year i (by omega)) ?_
      simp [ny_first, bef_first, ed]
      repeat refine ⟨by first | omega | assumption | (simp only [maxLen]; omega) | (intros; omega) | decide, ?_⟩
      refine hK _ ?_
      clear hK K
      repeat first | refine thenN ?_ | refine thenX ?_ | refine thenR ?_ | refine blockN ?_ | refine blockR ?_ | refine blockX ?_ | refine blockM rfl ?_
      -- region 6
      refine AWp.rend E_ok [0, 1, 2, 6, 7, 8, 9, 10, 19, 24, 33] fun K hK => ?_
      simp [ny_first, bef_first, ed]
      repeat refine ⟨by first | omega | assumption | (simp only [maxLen]; omega) | (intros; omega) | decide, ?_⟩
      refine hK _ ?_
      clear hK K
      repeat first | refine thenN ?_ | refine thenX ?_ | refine thenR ?_ | refine blockN ?_ | refine blockR ?_ | refine blockX ?_ | refine blockM rfl ?_
      have hw : IntKind.i64.wrap (i + 1) = i + 1 := by rw [wrap_i64] <;> omega
      have st := ny_step hi (by omega)
      have hr2 := ny_rng hi (by omega)
      have yp := year_pos i
      have hw2 : IntKind.i64.wrap (d - 1 + nyD i + yearD i) = d - 1 + nyD i + yearD i := by rw [wrap_i64] <;> omega
      refine ⟨⟨i + 1, by omega, by omega⟩, ?_, by simp only; omega⟩
      simp [Weak, TW, hw, hw2, st]
      omega
    · try simp at h24
      have hiy : nyD i = nyD y := by rw [show i = y by omega]
      refine AWp.exit ?_
      repeat first | refine thenN ?_ | refine thenX ?_ | refine thenR ?_ | refine blockN ?_ | refine blockR ?_ | refine blockX ?_ | refine blockM rfl ?_
      refine AWp.seq ?_
      -- region 8
      refine AWp.rseq E_ok [0, 1, 2, 6, 7, 8, 9, 10, 19, 24, 33] fun K hK => ?_
      simp [ny_first, bef_first, ed, hiy]
      repeat refine ⟨by first | omega | assumption | (simp only [maxLen]; omega) | (intros; omega) | decide, ?_⟩
      refine hK _ ?_
      clear hK K
      refine AWp.block ?_
      refine AWp.loop (ι := { k : Int // 1 ≤ k ∧ k ≤ m }) (fun x => match x with | ⟨j, hj, hj2⟩ => [(0, T.val (D.int IntKind.i64 y)), (1, T.val (D.int IntKind.i64 m)), (2, T.val (D.int IntKind.i64 d)), (8, T.val (.int .i64 (d - 1 + nyD y + befD y j))), (10, T.val (.int .i64 j))]) (fun x => match x with | ⟨j, hj, hj2⟩ => (m - j).toNat) ⟨1, Int.le_refl _, hin.2.1⟩ ?_ ?_
      · simp [Weak, TW, ny_first, bef_first]
      rintro ⟨j, hj, hj2⟩
      simp only
      try simp only at hj
      try simp only at hj2
      refine AWp.seq ?_
      -- region 9
      refine AWp.rseq E_ok [0, 1, 2, 6, 7, 8, 9, 10, 19, 24, 33] fun K hK => ?_
      simp [ny_first, bef_first, ed, hiy]
      repeat refine ⟨by first | omega | assumption | (simp only [maxLen]; omega) | (intros; omega) | decide, ?_⟩
      refine hK _ ?_
      clear hK K
      refine AWp.cond rfl (fun h33 => ?_) (fun h33 => ?_)
      · try simp at h33
        refine AWp.skip ?_
        repeat first | refine thenN ?_ | refine thenX ?_ | refine thenR ?_ | refine blockN ?_ | refine blockR ?_ | refine blockX ?_ | refine blockM rfl ?_
        refine AWp.seq ?_
        refine AWp.block ?_
        -- region 11
        refine AWp.rend E_ok [0, 1, 2, 6, 7, 8, 9, 10, 19, 24, 33] fun K hK => ?_
        simp [ny_first, bef_first, ed, hiy]
        repeat refine ⟨by first | omega | assumption | (simp only [maxLen]; omega) | (intros; omega) | decide, ?_⟩
        refine meet.of (ref03_Length y j) ?_
        simp [ny_first, bef_first, ed, hiy]
        repeat refine ⟨by first | omega | assumption | (simp only [maxLen]; omega) | (intros; omega) | decide, ?_⟩
        refine hK _ ?_
        clear hK K
        repeat first | refine thenN ?_ | refine thenX ?_ | refine thenR ?_ | refine blockN ?_ | refine blockR ?_ | refine blockX ?_ | refine blockM rfl ?_
        -- region 10
        refine AWp.rend E_ok [0, 1, 2, 6, 7, 8, 9, 10, 19, 24, 33] fun K hK => ?_
        simp [ny_first, bef_first, ed, hiy]
        repeat refine ⟨by first | omega | assumption | (simp only [maxLen]; omega) | (intros; omega) | decide, ?_⟩
        refine hK _ ?_
        clear hK K
        repeat first | refine thenN ?_ | refine thenX ?_ | refine thenR ?_ | refine blockN ?_ | refine blockR ?_ | refine blockX ?_ | refine blockM rfl ?_
        have hw : IntKind.i64.wrap (j + 1) = j + 1 := by rw [wrap_i64] <;> omega
        have st := bef_step hin.1.1 hin.1.2 hj (by omega)
        have hr2 := ny_rng hin.1.1 (by omega)
        have b1 := bef_mono (y := y) (m := 1) (n := j) (by omega) (by omega) hj
        have b2 := bef_mono (y := y) (m := j) (n := 13) (by omega) hj (by omega)
        rw [bef_first] at b1
        rw [bef_end hin.1.1 hin.1.2] at b2
        have yp := year_pos y
        have ml := mlen_rng hin.1.1 hin.1.2 hj (by omega)
        have hw2 : IntKind.i64.wrap (d - 1 + nyD y + befD y j + mlenD y j) = d - 1 + nyD y + befD y j + mlenD y j := by rw [wrap_i64] <;> omega
        refine ⟨⟨j + 1, by omega, by omega⟩, ?_, by simp only; omega⟩
        simp [Weak, TW, hw, hw2, st]
        omega
      · try simp at h33
        refine AWp.exit ?_
        repeat first | refine thenN ?_ | refine thenX ?_ | refine thenR ?_ | refine blockN ?_ | refine blockR ?_ | refine blockX ?_ | refine blockM rfl ?_
        -- region 12
        refine AWp.rseq E_ok [0, 1, 2, 6, 7, 8, 9, 10, 19, 24, 33] fun K hK => ?_
        simp [ny_first, bef_first, ed, hiy]
        repeat refine ⟨by first | omega | assumption | (simp only [maxLen]; omega) | (intros; omega) | decide, ?_⟩
        refine hK _ ?_
        clear hK K
        refine AWp.ret ?_
        repeat first | refine thenN ?_ | refine thenX ?_ | refine thenR ?_ | refine blockN ?_ | refine blockR ?_ | refine blockX ?_ | refine blockM rfl ?_
        first | (simp [RetOk, RV, RVs, hb]; done) | (obtain rfl : j = m := (by omega); rw [of_ok (by omega) (by omega)]; simp [RetOk, RV, RVs, dayD]; omega)
end Go.Proofs.Ytceapemkefaicaa

set_option maxRecDepth 100000
set_option linter.unusedSimpArgs false
set_option linter.unusedVariables false
namespace Go.Proofs.Ytceapemkefaicaa
open Go Ab Pl
theorem ref03_Months (day n : Int) : ACalls E.P 87 [.int .i64 day, .int .i64 n] (.tup [.int .i64 (monthsR day n).1, .int .i64 (monthsR day n).2]) := by
  refine ACalls.intro E_ok Try.func87 rfl rfl Try.ntmps87 Try.results87 (Nat.le_of_ble_eq_true rfl) fun hok base S0 w0 => ?_
  -- region 0
  refine AWp.rseq E_ok [0, 1, 4, 5, 6, 7, 8, 9, 10, 27, 40, 48] fun K hK => ?_
  simp
  try simp (disch := omega) only [wrap_i64]
  repeat refine ⟨by first | omega | assumption | (simp only [maxLen]; omega) | (intros; omega) | decide, ?_⟩
  refine hK _ ?_
  clear hK K
  -- region 1
  refine AWp.rseq E_ok [0, 1, 4, 5, 6, 7, 8, 9, 10, 27, 40, 48] fun K hK => ?_
  simp
  try simp (disch := omega) only [wrap_i64]
  repeat refine ⟨by first | omega | assumption | (simp only [maxLen]; omega) | (intros; omega) | decide, ?_⟩
  refine meet.of (ref03_Parts day) ?_
  simp
  try simp (disch := omega) only [wrap_i64]
  repeat refine ⟨by first | omega | assumption | (simp only [maxLen]; omega) | (intros; omega) | decide, ?_⟩
  refine hK _ ?_
  clear hK K
  refine AWp.seq ?_
  -- region 2
  refine AWp.rseq E_ok [0, 1, 4, 5, 6, 7, 8, 9, 10, 27, 40, 48] fun K hK => ?_
  simp
  try simp (disch := omega) only [wrap_i64]
  repeat refine ⟨by first | omega | assumption | (simp only [maxLen]; omega) | (intros; omega) | decide, ?_⟩
  refine hK _ ?_
  clear hK K
  refine AWp.cond rfl (fun h27 => ?_) (fun h27 => ?_)
  · try simp at h27
    have hb := months_a (day := day) (n := n) (by by_cases hz : (partsR day).2.2.2 = 0 <;> first | exact .inl (partsR_unknown hz) | exact .inr (by omega))
    -- region 3
    refine AWp.rseq E_ok [0, 1, 4, 5, 6, 7, 8, 9, 10, 27, 40, 48] fun K hK => ?_
    simp
    try simp (disch := omega) only [wrap_i64]
    repeat refine ⟨by first | omega | assumption | (simp only [maxLen]; omega) | (intros; omega) | decide, ?_⟩
    refine hK _ ?_
    clear hK K
    refine AWp.ret ?_
    repeat first | refine thenN ?_ | refine thenX ?_ | refine thenR ?_ | refine blockN ?_ | refine blockR ?_ | refine blockX ?_ | refine blockM rfl ?_
    first | (simp [RetOk, RV, RVs, hb]; done) | (simp [RetOk, RV, RVs, hb, hmn])
  · try simp at h27
    have hk := partsR_known h27.1.1
    have hpr := partsR_ok hk
    have hi := parts_in (parts_is hk.1 hk.2)
    have hkk : 12 * (partsP day).y + (partsP day).m - 1 + n = monK day n := by unfold monK; omega
    refine AWp.skip ?_
    repeat first | refine thenN ?_ | refine thenX ?_ | refine thenR ?_ | refine blockN ?_ | refine blockR ?_ | refine blockX ?_ | refine blockM rfl ?_
    -- region 4
    refine AWp.rseq E_ok [0, 1, 4, 5, 6, 7, 8, 9, 10, 27, 40, 48] fun K hK => ?_
    simp [hpr, hkk]
    try simp (disch := omega) only [wrap_i64]
    repeat refine ⟨by first | omega | assumption | (simp only [maxLen]; omega) | (intros; omega) | decide, ?_⟩
    refine hK _ ?_
    clear hK K
    refine AWp.seq ?_
    -- region 5
    refine AWp.rseq E_ok [0, 1, 4, 5, 6, 7, 8, 9, 10, 27, 40, 48] fun K hK => ?_
    simp [hpr, hkk]
    try simp (disch := omega) only [wrap_i64]
    repeat refine ⟨by first | omega | assumption | (simp only [maxLen]; omega) | (intros; omega) | decide, ?_⟩
    refine hK _ ?_
    clear hK K
    refine AWp.cond rfl (fun h40 => ?_) (fun h40 => ?_)
    · try simp at h40
      have hb := months_b (day := day) (n := n) ⟨hk, by omega, by omega⟩ (by omega)
      -- region 6
      refine AWp.rseq E_ok [0, 1, 4, 5, 6, 7, 8, 9, 10, 27, 40, 48] fun K hK => ?_
      simp [hpr, hkk]
      try simp (disch := omega) only [wrap_i64]
      repeat refine ⟨by first | omega | assumption | (simp only [maxLen]; omega) | (intros; omega) | decide, ?_⟩
      refine hK _ ?_
      clear hK K
      refine AWp.ret ?_
      repeat first | refine thenN ?_ | refine thenX ?_ | refine thenR ?_ | refine blockN ?_ | refine blockR ?_ | refine blockX ?_ | refine blockM rfl ?_
      first | (simp [RetOk, RV, RVs, hb]; done) | (simp [RetOk, RV, RVs, hb, hmn])
    · try simp at h40
      have hb := months_c (day := day) (n := n) ⟨hk, by omega, by omega⟩ (by omega)
      have q1 : (monK day n).tdiv 12 = monK day n / 12 := by rw [Int.tdiv_eq_ediv_of_nonneg (by omega)]
      have q2 : (monK day n).tmod 12 = monK day n % 12 := by rw [Int.tmod_eq_emod_of_nonneg (by omega)]
      refine AWp.skip ?_
      repeat first | refine thenN ?_ | refine thenX ?_ | refine thenR ?_ | refine blockN ?_ | refine blockR ?_ | refine blockX ?_ | refine blockM rfl ?_
      refine AWp.seq ?_
      -- region 7
      refine AWp.rseq E_ok [0, 1, 4, 5, 6, 7, 8, 9, 10, 27, 40, 48] fun K hK => ?_
      simp [hpr, hkk, q1, q2]
      try simp (disch := omega) only [wrap_i64]
      repeat refine ⟨by first | omega | assumption | (simp only [maxLen]; omega) | (intros; omega) | decide, ?_⟩
      refine meet.of (ref03_Length (monK day n / 12) (monK day n % 12 + 1)) ?_
      simp [hpr, hkk, q1, q2]
      try simp (disch := omega) only [wrap_i64]
      repeat refine ⟨by first | omega | assumption | (simp only [maxLen]; omega) | (intros; omega) | decide, ?_⟩
      refine hK _ ?_
      clear hK K
      refine AWp.cond rfl (fun h48 => ?_) (fun h48 => ?_)
      · try simp at h48
        have hmn : min (partsP day).d (mlenD (monK day n / 12) (monK day n % 12 + 1)) = mlenD (monK day n / 12) (monK day n % 12 + 1) := Int.min_eq_right (by omega)
        -- region 8
        refine AWp.rend E_ok [0, 1, 4, 5, 6, 7, 8, 9, 10, 27, 40, 48] fun K hK => ?_
        simp [hpr, hkk, q1, q2]
        try simp (disch := omega) only [wrap_i64]
        repeat refine ⟨by first | omega | assumption | (simp only [maxLen]; omega) | (intros; omega) | decide, ?_⟩
        refine meet.of (ref03_Length (monK day n / 12) (monK day n % 12 + 1)) ?_
        simp [hpr, hkk, q1, q2]
        try simp (disch := omega) only [wrap_i64]
        repeat refine ⟨by first | omega | assumption | (simp only [maxLen]; omega) | (intros; omega) | decide, ?_⟩
        refine hK _ ?_
        clear hK K
        repeat first | refine thenN ?_ | refine thenX ?_ | refine thenR ?_ | refine blockN ?_ | refine blockR ?_ | refine blockX ?_ | refine blockM rfl ?_
        -- region 9
        refine AWp.rseq E_ok [0, 1, 4, 5, 6, 7, 8, 9, 10, 27, 40, 48] fun K hK => ?_
        simp [hpr, hkk, q1, q2]
        try simp (disch := omega) only [wrap_i64]
        repeat refine ⟨by first | omega | assumption | (simp only [maxLen]; omega) | (intros; omega) | decide, ?_⟩
        refine meet.of (ref03_Of (monK day n / 12) (monK day n % 12 + 1) _) ?_
        simp [hpr, hkk, q1, q2]
        try simp (disch := omega) only [wrap_i64]
        repeat refine ⟨by first | omega | assumption | (simp only [maxLen]; omega) | (intros; omega) | decide, ?_⟩
        refine hK _ ?_
        clear hK K
        refine AWp.ret ?_
        repeat first | refine thenN ?_ | refine thenX ?_ | refine thenR ?_ | refine blockN ?_ | refine blockR ?_ | refine blockX ?_ | refine blockM rfl ?_
        first | (simp [RetOk, RV, RVs, hb]; done) | (simp [RetOk, RV, RVs, hb, hmn])
      · try simp at h48
        have hmn : min (partsP day).d (mlenD (monK day n / 12) (monK day n % 12 + 1)) = (partsP day).d := Int.min_eq_left (by omega)
        refine AWp.skip ?_
        repeat first | refine thenN ?_ | refine thenX ?_ | refine thenR ?_ | refine blockN ?_ | refine blockR ?_ | refine blockX ?_ | refine blockM rfl ?_
        -- region 9
        refine AWp.rseq E_ok [0, 1, 4, 5, 6, 7, 8, 9, 10, 27, 40, 48] fun K hK => ?_
        simp [hpr, hkk, q1, q2]
        try simp (disch := omega) only [wrap_i64]
        repeat refine ⟨by first | omega | assumption | (simp only [maxLen]; omega) | (intros; omega) | decide, ?_⟩
        refine meet.of (ref03_Of (monK day n / 12) (monK day n % 12 + 1) _) ?_
        simp [hpr, hkk, q1, q2]
        try simp (disch := omega) only [wrap_i64]
        repeat refine ⟨by first | omega | assumption | (simp only [maxLen]; omega) | (intros; omega) | decide, ?_⟩
        refine hK _ ?_
        clear hK K
        refine AWp.ret ?_
        repeat first | refine thenN ?_ | refine thenX ?_ | refine thenR ?_ | refine blockN ?_ | refine blockR ?_ | refine blockX ?_ | refine blockM rfl ?_
        first | (simp [RetOk, RV, RVs, hb]; done) | (simp [RetOk, RV, RVs, hb, hmn])
end Go.Proofs.Ytceapemkefaicaa

set_option maxRecDepth 100000
set_option linter.unusedSimpArgs false
set_option linter.unusedVariables false
namespace Go.Proofs.Ytceapemkefaicaa
open Go Ab Pl
theorem ref36_nominal (p : Pat) (k : Int) (hp : PatOk p) (hk : 0 ≤ k ∧ k ≤ 16000) : ACalls E.P 83 [encPat p, .int .i64 k] (.d (.int .i64 ((nomO p k).getD (-1)))) := by
  refine ACalls.intro E_ok Try.func83 rfl rfl Try.ntmps83 Try.results83 (Nat.le_of_ble_eq_true rfl) fun hok base S0 w0 => ?_
  have hs := hp.1; have he := hp.2.1
  -- region 0
  refine AWp.rseq E_ok [0, 1, 2, 4, 5, 6, 7, 10, 21, 30, 35, 46] fun K hK => ?_
  simp [encPat_eq]
  try simp (disch := omega) only [wrap_i64]
  repeat refine ⟨by first | omega | assumption | (simp only [maxLen]; omega) | (intros; omega) | decide, ?_⟩
  refine hK _ ?_
  clear hK K
  refine AWp.seq ?_
  -- region 1
  refine AWp.rseq E_ok [0, 1, 2, 4, 5, 6, 7, 10, 21, 30, 35, 46] fun K hK => ?_
  simp [encPat_eq]
  try simp (disch := omega) only [wrap_i64]
  repeat refine ⟨by first | omega | assumption | (simp only [maxLen]; omega) | (intros; omega) | decide, ?_⟩
  refine hK _ ?_
  clear hK K
  refine AWp.cond rfl (fun h10 => ?_) (fun h10 => ?_)
  · try simp at h10
    refine AWp.seq ?_
    -- region 2
    refine AWp.rseq E_ok [0, 1, 2, 4, 5, 6, 7, 10, 21, 30, 35, 46] fun K hK => ?_
    simp [encPat_eq]
    try simp (disch := omega) only [wrap_i64]
    repeat refine ⟨by first | omega | assumption | (simp only [maxLen]; omega) | (intros; omega) | decide, ?_⟩
    refine hK _ ?_
    clear hK K
    refine AWp.cond rfl (fun h21 => ?_) (fun h21 => ?_)
    · try simp at h21
      have hb := nom_w0 (p := p) (k := k) h10 (by omega)
      -- region 3
      refine AWp.rseq E_ok [0, 1, 2, 4, 5, 6, 7, 10, 21, 30, 35, 46] fun K hK => ?_
      simp [encPat_eq, h21]
      try simp (disch := omega) only [wrap_i64]
      repeat refine ⟨by first | omega | assumption | (simp only [maxLen]; omega) | (intros; omega) | decide, ?_⟩
      refine hK _ ?_
      clear hK K
      refine AWp.ret ?_
      repeat first | refine thenN ?_ | refine thenX ?_ | refine thenR ?_ | refine blockN ?_ | refine blockR ?_ | refine blockX ?_ | refine blockM rfl ?_
      first | (simp [RetOk, RV, RVs, hb]; done) | (simp_all [RetOk, RV, RVs])
    · try simp at h21
      have hb := nom_w1 (p := p) (k := k) h10 (by omega)
      refine AWp.skip ?_
      repeat first | refine thenN ?_ | refine thenX ?_ | refine thenR ?_ | refine blockN ?_ | refine blockR ?_ | refine blockX ?_ | refine blockM rfl ?_
      -- region 4
      refine AWp.rseq E_ok [0, 1, 2, 4, 5, 6, 7, 10, 21, 30, 35, 46] fun K hK => ?_
      simp [encPat_eq, h21]
      try simp (disch := omega) only [wrap_i64]
      repeat refine ⟨by first | omega | assumption | (simp only [maxLen]; omega) | (intros; omega) | decide, ?_⟩
      refine hK _ ?_
      clear hK K
      refine AWp.ret ?_
      repeat first | refine thenN ?_ | refine thenX ?_ | refine thenR ?_ | refine blockN ?_ | refine blockR ?_ | refine blockX ?_ | refine blockM rfl ?_
      first | (simp [RetOk, RV, RVs, hb]; done) | (simp_all [RetOk, RV, RVs])
  · try simp at h10
    refine AWp.skip ?_
    repeat first | refine thenN ?_ | refine thenX ?_ | refine thenR ?_ | refine blockN ?_ | refine blockR ?_ | refine blockX ?_ | refine blockM rfl ?_
    -- region 5
    refine AWp.rseq E_ok [0, 1, 2, 4, 5, 6, 7, 10, 21, 30, 35, 46] fun K hK => ?_
    simp [encPat_eq]
    try simp (disch := omega) only [wrap_i64]
    repeat refine ⟨by first | omega | assumption | (simp only [maxLen]; omega) | (intros; omega) | decide, ?_⟩
    refine hK _ ?_
    clear hK K
    refine AWp.seq ?_
    -- region 6
    refine AWp.rseq E_ok [0, 1, 2, 4, 5, 6, 7, 10, 21, 30, 35, 46] fun K hK => ?_
    simp [encPat_eq]
    try simp (disch := omega) only [wrap_i64]
    repeat refine ⟨by first | omega | assumption | (simp only [maxLen]; omega) | (intros; omega) | decide, ?_⟩
    refine hK _ ?_
    clear hK K
    refine AWp.cond rfl (fun h30 => ?_) (fun h30 => ?_)
    · try simp at h30
      have sp : stepP p = 3 := by unfold stepP; rw [if_pos h30]
      -- region 7
      refine AWp.rend E_ok [0, 1, 2, 4, 5, 6, 7, 10, 21, 30, 35, 46] fun K hK => ?_
      simp [encPat_eq, h30]
      try simp (disch := omega) only [wrap_i64]
      repeat refine ⟨by first | omega | assumption | (simp only [maxLen]; omega) | (intros; omega) | decide, ?_⟩
      refine hK _ ?_
      clear hK K
      repeat first | refine thenN ?_ | refine thenX ?_ | refine thenR ?_ | refine blockN ?_ | refine blockR ?_ | refine blockX ?_ | refine blockM rfl ?_
      refine AWp.seq ?_
      -- region 8
      refine AWp.rseq E_ok [0, 1, 2, 4, 5, 6, 7, 10, 21, 30, 35, 46] fun K hK => ?_
      simp [encPat_eq, h30]
      try simp (disch := omega) only [wrap_i64]
      repeat refine ⟨by first | omega | assumption | (simp only [maxLen]; omega) | (intros; omega) | decide, ?_⟩
      refine hK _ ?_
      clear hK K
      refine AWp.cond rfl (fun h35 => ?_) (fun h35 => ?_)
      · exact absurd h35 (by simp)
      · try simp at h35
        have sp : stepP p = (if p.every = 3 then 3 else 1) := by unfold stepP; split <;> simp_all
        refine AWp.skip ?_
        repeat first | refine thenN ?_ | refine thenX ?_ | refine thenR ?_ | refine blockN ?_ | refine blockR ?_ | refine blockX ?_ | refine blockM rfl ?_
        -- region 10
        refine AWp.rseq E_ok [0, 1, 2, 4, 5, 6, 7, 10, 21, 30, 35, 46] fun K hK => ?_
        simp [encPat_eq, h30, h35]
        try simp (disch := omega) only [wrap_i64]
        repeat refine ⟨by first | omega | assumption | (simp only [maxLen]; omega) | (intros; omega) | decide, ?_⟩
        refine meet.of (ref03_Months p.start _) ?_
        simp [encPat_eq, h30, h35]
        try simp (disch := omega) only [wrap_i64]
        repeat refine ⟨by first | omega | assumption | (simp only [maxLen]; omega) | (intros; omega) | decide, ?_⟩
        refine hK _ ?_
        clear hK K
        refine AWp.seq ?_
        -- region 11
        refine AWp.rseq E_ok [0, 1, 2, 4, 5, 6, 7, 10, 21, 30, 35, 46] fun K hK => ?_
        simp [encPat_eq, h30, h35]
        try simp (disch := omega) only [wrap_i64]
        repeat refine ⟨by first | omega | assumption | (simp only [maxLen]; omega) | (intros; omega) | decide, ?_⟩
        refine hK _ ?_
        clear hK K
        refine AWp.cond rfl (fun h46 => ?_) (fun h46 => ?_)
        · try simp at h46
          have hb := nom_m0 (p := p) (k := k) h10 (by simp_all)
          -- region 12
          refine AWp.rseq E_ok [0, 1, 2, 4, 5, 6, 7, 10, 21, 30, 35, 46] fun K hK => ?_
          simp [encPat_eq, h30, h35, h46]
          try simp (disch := omega) only [wrap_i64]
          repeat refine ⟨by first | omega | assumption | (simp only [maxLen]; omega) | (intros; omega) | decide, ?_⟩
          refine hK _ ?_
          clear hK K
          refine AWp.ret ?_
          repeat first | refine thenN ?_ | refine thenX ?_ | refine thenR ?_ | refine blockN ?_ | refine blockR ?_ | refine blockX ?_ | refine blockM rfl ?_
          first | (simp [RetOk, RV, RVs, hb]; done) | (simp_all [RetOk, RV, RVs])
        · try simp at h46
          have hb := nom_m1 (p := p) (k := k) h10 (by simp_all)
          refine AWp.skip ?_
          repeat first | refine thenN ?_ | refine thenX ?_ | refine thenR ?_ | refine blockN ?_ | refine blockR ?_ | refine blockX ?_ | refine blockM rfl ?_
          -- region 13
          refine AWp.rseq E_ok [0, 1, 2, 4, 5, 6, 7, 10, 21, 30, 35, 46] fun K hK => ?_
          simp [encPat_eq, h30, h35, h46]
          try simp (disch := omega) only [wrap_i64]
          repeat refine ⟨by first | omega | assumption | (simp only [maxLen]; omega) | (intros; omega) | decide, ?_⟩
          refine hK _ ?_
          clear hK K
          refine AWp.ret ?_
          repeat first | refine thenN ?_ | refine thenX ?_ | refine thenR ?_ | refine blockN ?_ | refine blockR ?_ | refine blockX ?_ | refine blockM rfl ?_
          first | (simp [RetOk, RV, RVs, hb]; done) | (simp_all [RetOk, RV, RVs])
    · try simp at h30
      refine AWp.skip ?_
      repeat first | refine thenN ?_ | refine thenX ?_ | refine thenR ?_ | refine blockN ?_ | refine blockR ?_ | refine blockX ?_ | refine blockM rfl ?_
      refine AWp.seq ?_
      -- region 8
      refine AWp.rseq E_ok [0, 1, 2, 4, 5, 6, 7, 10, 21, 30, 35, 46] fun K hK => ?_
      simp [encPat_eq, h30]
      try simp (disch := omega) only [wrap_i64]
      repeat refine ⟨by first | omega | assumption | (simp only [maxLen]; omega) | (intros; omega) | decide, ?_⟩
      refine hK _ ?_
      clear hK K
      refine AWp.cond rfl (fun h35 => ?_) (fun h35 => ?_)
      · try simp at h35
        have sp : stepP p = 12 := by unfold stepP; rw [if_neg (by omega), if_pos h35]
        -- region 9
        refine AWp.rend E_ok [0, 1, 2, 4, 5, 6, 7, 10, 21, 30, 35, 46] fun K hK => ?_
        simp [encPat_eq, h30, h35]
        try simp (disch := omega) only [wrap_i64]
        repeat refine ⟨by first | omega | assumption | (simp only [maxLen]; omega) | (intros; omega) | decide, ?_⟩
        refine hK _ ?_
        clear hK K
        repeat first | refine thenN ?_ | refine thenX ?_ | refine thenR ?_ | refine blockN ?_ | refine blockR ?_ | refine blockX ?_ | refine blockM rfl ?_
        -- region 10
        refine AWp.rseq E_ok [0, 1, 2, 4, 5, 6, 7, 10, 21, 30, 35, 46] fun K hK => ?_
        simp [encPat_eq, h30, h35]
        try simp (disch := omega) only [wrap_i64]
        repeat refine ⟨by first | omega | assumption | (simp only [maxLen]; omega) | (intros; omega) | decide, ?_⟩
        refine meet.of (ref03_Months p.start _) ?_
        simp [encPat_eq, h30, h35]
        try simp (disch := omega) only [wrap_i64]
        repeat refine ⟨by first | omega | assumption | (simp only [maxLen]; omega) | (intros; omega) | decide, ?_⟩
        refine hK _ ?_
        clear hK K
        refine AWp.seq ?_
        -- region 11
        refine AWp.rseq E_ok [0, 1, 2, 4, 5, 6, 7, 10, 21, 30, 35, 46] fun K hK => ?_
        simp [encPat_eq, h30, h35]
        try simp (disch := omega) only [wrap_i64]
        repeat refine ⟨by first | omega | assumption | (simp only [maxLen]; omega) | (intros; omega) | decide, ?_⟩
        refine hK _ ?_
        clear hK K
        refine AWp.cond rfl (fun h46 => ?_) (fun h46 => ?_)
        · try simp at h46
          have hb := nom_m0 (p := p) (k := k) h10 (by simp_all)
          -- region 12
          refine AWp.rseq E_ok [0, 1, 2, 4, 5, 6, 7, 10, 21, 30, 35, 46] fun K hK => ?_
          simp [encPat_eq, h30, h35, h46]
          try simp (disch := omega) only [wrap_i64]
          repeat refine ⟨by first | omega | assumption | (simp only [maxLen]; omega) | (intros; omega) | decide, ?_⟩
          refine hK _ ?_
          clear hK K
          refine AWp.ret ?_
          repeat first | refine thenN ?_ | refine thenX ?_ | refine thenR ?_ | refine blockN ?_ | refine blockR ?_ | refine blockX ?_ | refine blockM rfl ?_
          first | (simp [RetOk, RV, RVs, hb]; done) | (simp_all [RetOk, RV, RVs])
        · try simp at h46
          have hb := nom_m1 (p := p) (k := k) h10 (by simp_all)
          refine AWp.skip ?_
          repeat first | refine thenN ?_ | refine thenX ?_ | refine thenR ?_ | refine blockN ?_ | refine blockR ?_ | refine blockX ?_ | refine blockM rfl ?_
          -- region 13
          refine AWp.rseq E_ok [0, 1, 2, 4, 5, 6, 7, 10, 21, 30, 35, 46] fun K hK => ?_
          simp [encPat_eq, h30, h35, h46]
          try simp (disch := omega) only [wrap_i64]
          repeat refine ⟨by first | omega | assumption | (simp only [maxLen]; omega) | (intros; omega) | decide, ?_⟩
          refine hK _ ?_
          clear hK K
          refine AWp.ret ?_
          repeat first | refine thenN ?_ | refine thenX ?_ | refine thenR ?_ | refine blockN ?_ | refine blockR ?_ | refine blockX ?_ | refine blockM rfl ?_
          first | (simp [RetOk, RV, RVs, hb]; done) | (simp_all [RetOk, RV, RVs])
      · try simp at h35
        have sp : stepP p = (if p.every = 3 then 3 else 1) := by unfold stepP; split <;> simp_all
        refine AWp.skip ?_
        repeat first | refine thenN ?_ | refine thenX ?_ | refine thenR ?_ | refine blockN ?_ | refine blockR ?_ | refine blockX ?_ | refine blockM rfl ?_
        -- region 10
        refine AWp.rseq E_ok [0, 1, 2, 4, 5, 6, 7, 10, 21, 30, 35, 46] fun K hK => ?_
        simp [encPat_eq, h30, h35]
        try simp (disch := omega) only [wrap_i64]
        repeat refine ⟨by first | omega | assumption | (simp only [maxLen]; omega) | (intros; omega) | decide, ?_⟩
        refine meet.of (ref03_Months p.start _) ?_
        simp [encPat_eq, h30, h35]
        try simp (disch := omega) only [wrap_i64]
        repeat refine ⟨by first | omega | assumption | (simp only [maxLen]; omega) | (intros; omega) | decide, ?_⟩
        refine hK _ ?_
        clear hK K
        refine AWp.seq ?_
        -- region 11
        refine AWp.rseq E_ok [0, 1, 2, 4, 5, 6, 7, 10, 21, 30, 35, 46] fun K hK => ?_
        simp [encPat_eq, h30, h35]
        try simp (disch := omega) only [wrap_i64]
        repeat refine ⟨by first | omega | assumption | (simp only [maxLen]; omega) | (intros; omega) | decide, ?_⟩
        refine hK _ ?_
        clear hK K
        refine AWp.cond rfl (fun h46 => ?_) (fun h46 => ?_)
        · try simp at h46
          have hb := nom_m0 (p := p) (k := k) h10 (by simp_all)
          -- region 12
          refine AWp.rseq E_ok [0, 1, 2, 4, 5, 6, 7, 10, 21, 30, 35, 46] fun K hK => ?_
          simp [encPat_eq, h30, h35, h46]
          try simp (disch := omega) only [wrap_i64]
          repeat refine ⟨by first | omega | assumption | (simp only [maxLen]; omega) | (intros; omega) | decide, ?_⟩
          refine hK _ ?_
          clear hK K
          refine AWp.ret ?_
          repeat first | refine thenN ?_ | refine thenX ?_ | refine thenR ?_ | refine blockN ?_ | refine blockR ?_ | refine blockX ?_ | refine blockM rfl ?_
          first | (simp [RetOk, RV, RVs, hb]; done) | (simp_all [RetOk, RV, RVs])
        · try simp at h46
          have hb := nom_m1 (p := p) (k := k) h10 (by simp_all)
          refine AWp.skip ?_
          repeat first | refine thenN ?_ | refine thenX ?_ | refine thenR ?_ | refine blockN ?_ | refine blockR ?_ | refine blockX ?_ | refine blockM rfl ?_
          -- region 13
          refine AWp.rseq E_ok [0, 1, 2, 4, 5, 6, 7, 10, 21, 30, 35, 46] fun K hK => ?_
          simp [encPat_eq, h30, h35, h46]
          try simp (disch := omega) only [wrap_i64]
          repeat refine ⟨by first | omega | assumption | (simp only [maxLen]; omega) | (intros; omega) | decide, ?_⟩
          refine hK _ ?_
          clear hK K
          refine AWp.ret ?_
          repeat first | refine thenN ?_ | refine thenX ?_ | refine thenR ?_ | refine blockN ?_ | refine blockR ?_ | refine blockX ?_ | refine blockM rfl ?_
          first | (simp [RetOk, RV, RVs, hb]; done) | (simp_all [RetOk, RV, RVs])
end Go.Proofs.Ytceapemkefaicaa

set_option maxRecDepth 100000
set_option linter.unusedSimpArgs false
set_option linter.unusedVariables false
namespace Go.Proofs.Ytceapemkefaicaa
open Go Ab Pl
theorem ref36_month (d : Int) : ACalls E.P 72 [.int .i64 d] (.d (.int .i64 (monthD d))) := by
  refine ACalls.intro E_ok Try.func72 rfl rfl Try.ntmps72 Try.results72 (Nat.le_of_ble_eq_true rfl) fun hok base S0 w0 => ?_
  -- region 0
  refine AWp.rseq E_ok [0, 2, 4] fun K hK => ?_
  simp
  repeat refine ⟨by first | omega | assumption | (simp only [maxLen]; omega) | (intros; omega) | decide, ?_⟩
  refine hK _ ?_
  clear hK K
  -- region 1
  refine AWp.rseq E_ok [0, 2, 4] fun K hK => ?_
  simp
  repeat refine ⟨by first | omega | assumption | (simp only [maxLen]; omega) | (intros; omega) | decide, ?_⟩
  refine meet.of (ref03_Parts d) ?_
  simp
  repeat refine ⟨by first | omega | assumption | (simp only [maxLen]; omega) | (intros; omega) | decide, ?_⟩
  refine hK _ ?_
  clear hK K
  -- region 2
  refine AWp.rseq E_ok [0, 2, 4] fun K hK => ?_
  simp
  repeat refine ⟨by first | omega | assumption | (simp only [maxLen]; omega) | (intros; omega) | decide, ?_⟩
  refine hK _ ?_
  clear hK K
  refine AWp.ret ?_
  repeat first | refine thenN ?_ | refine thenX ?_ | refine thenR ?_ | refine blockN ?_ | refine blockR ?_ | refine blockX ?_ | refine blockM rfl ?_
  simp [RetOk, RV, RVs, monthD]
end Go.Proofs.Ytceapemkefaicaa

set_option maxRecDepth 100000
set_option linter.unusedSimpArgs false
set_option linter.unusedVariables false
namespace Go.Proofs.Ytceapemkefaicaa
open Go Ab Pl
theorem ref36_following (p : Pat) (k0 : Int) (hp : PatOk p) (hk0 : 0 ≤ k0 ∧ k0 ≤ 16000) : ACalls E.P 71 [encPat p, .int .i64 k0] (.tup [.int .i64 ((scan p k0).1.getD (-1)), .int .i64 (scan p k0).2]) := by
  refine ACalls.intro E_ok Try.func71 rfl rfl Try.ntmps71 Try.results71 (Nat.le_of_ble_eq_true rfl) fun hok base S0 w0 => ?_
  -- region 0
  refine AWp.rseq E_ok [0, 1, 2, 4, 5, 6, 11, 18] fun K hK => ?_
  simp [encPat_eq, encInts_eq, monthD_1, monthD_2]
  try simp (disch := omega) only [wrap_i64]
  repeat refine ⟨by first | omega | assumption | (simp only [maxLen]; omega) | (intros; omega) | decide, ?_⟩
  refine hK _ ?_
  clear hK K
  refine AWp.block ?_
  refine AWp.loop (ι := { k : Int // k0 ≤ k ∧ k ≤ 16000 ∧ scan p k = scan p k0 }) (fun x => match x with | ⟨k, hk, hk2, hsc⟩ => [(0, T.val (D.agg [D.int IntKind.i64 p.start, D.int IntKind.i64 p.every, D.int IntKind.i64 p.per, D.int IntKind.i64 p.first, (D.int IntKind.i64 0).slice (List.map (D.int IntKind.i64) p.skip), (D.int IntKind.i64 0).slice (List.map (D.int IntKind.i64) p.dbl)])), (1, T.val (.int .i64 k)), (2, T.box [C.d (D.int IntKind.i64 p.start), C.d (D.int IntKind.i64 p.every), C.d (D.int IntKind.i64 p.per), C.d (D.int IntKind.i64 p.first), C.d ((D.int IntKind.i64 0).slice (List.map (D.int IntKind.i64) p.skip)), C.d ((D.int IntKind.i64 0).slice (List.map (D.int IntKind.i64) p.dbl))])]) (fun x => match x with | ⟨k, hk, hk2, hsc⟩ => (16001 - k).toNat) ⟨k0, by omega, by omega, rfl⟩ ?_ ?_
  · simp [Weak, TW, encPat_eq, encInts_eq, monthD_1, monthD_2]
  rintro ⟨k, hk, hk2, hsc⟩
  simp only
  try simp only at hk
  try simp only at hk2
  try simp only at hsc
  refine AWp.block ?_
  -- region 1
  refine AWp.rseq E_ok [0, 1, 2, 4, 5, 6, 11, 18] fun K hK => ?_
  simp [encPat_eq, encInts_eq, monthD_1, monthD_2]
  try simp (disch := omega) only [wrap_i64]
  repeat refine ⟨by first | omega | assumption | (simp only [maxLen]; omega) | (intros; omega) | decide, ?_⟩
  refine meet.of (ref36_nominal p k hp (by omega)) ?_
  simp [encPat_eq, encInts_eq, monthD_1, monthD_2]
  try simp (disch := omega) only [wrap_i64]
  repeat refine ⟨by first | omega | assumption | (simp only [maxLen]; omega) | (intros; omega) | decide, ?_⟩
  refine hK _ ?_
  clear hK K
  refine AWp.seq ?_
  -- region 2
  refine AWp.rseq E_ok [0, 1, 2, 4, 5, 6, 11, 18] fun K hK => ?_
  simp [encPat_eq, encInts_eq, monthD_1, monthD_2]
  try simp (disch := omega) only [wrap_i64]
  repeat refine ⟨by first | omega | assumption | (simp only [maxLen]; omega) | (intros; omega) | decide, ?_⟩
  refine hK _ ?_
  clear hK K
  refine AWp.cond rfl (fun h11 => ?_) (fun h11 => ?_)
  · try simp at h11
    have hn : nomO p k = none := by cases hc : nomO p k <;> first | rfl | (have := nom_rng hc; rw [hc] at h11; simp at h11; omega)
    have hb := scan_none hk2 hn
    -- region 3
    refine AWp.rseq E_ok [0, 1, 2, 4, 5, 6, 11, 18] fun K hK => ?_
    simp [encPat_eq, encInts_eq, monthD_1, monthD_2]
    try simp (disch := omega) only [wrap_i64]
    repeat refine ⟨by first | omega | assumption | (simp only [maxLen]; omega) | (intros; omega) | decide, ?_⟩
    refine hK _ ?_
    clear hK K
    refine AWp.ret ?_
    repeat first | refine thenN ?_ | refine thenX ?_ | refine thenR ?_ | refine blockN ?_ | refine blockR ?_ | refine blockX ?_ | refine blockM rfl ?_
    rw [← hsc, hb]; simp [RetOk, RV, RVs]
  · try simp at h11
    have hn : nomO p k = some ((nomO p k).getD (-1)) := by cases hc : nomO p k <;> first | rfl | (rw [hc] at h11; exact absurd h11 (by decide))
    have hlt := nom_lt hp hn
    refine AWp.skip ?_
    repeat first | refine thenN ?_ | refine thenX ?_ | refine thenR ?_ | refine blockN ?_ | refine blockR ?_ | refine blockX ?_ | refine blockM rfl ?_
    refine AWp.seq ?_
    -- region 4
    refine AWp.rseqQ E_ok mixed [0, 1, 2, 4, 5, 6, 11, 18] (by kernel_rfl) fun K hK => ?_
    simp [encPat_eq, encInts_eq, monthD_1, monthD_2]
    try simp (disch := omega) only [wrap_i64]
    repeat refine ⟨by first | omega | assumption | (simp only [maxLen]; omega) | (intros; omega) | decide, ?_⟩
    refine meet.of (ref36_month _) ?_
    simp [encPat_eq, encInts_eq, monthD_1, monthD_2]
    try simp (disch := omega) only [wrap_i64]
    repeat refine ⟨by first | omega | assumption | (simp only [maxLen]; omega) | (intros; omega) | decide, ?_⟩
    refine meet.of (ref36_in p.skip _) ?_
    simp [encPat_eq, encInts_eq, monthD_1, monthD_2]
    try simp (disch := omega) only [wrap_i64]
    repeat refine ⟨by first | omega | assumption | (simp only [maxLen]; omega) | (intros; omega) | decide, ?_⟩
    refine hK _ ?_
    clear hK K
    refine AWp.cond rfl (fun h18 => ?_) (fun h18 => ?_)
    · try simp at h18
      have hb := scan_some hk2 hn (by simpa using h18)
      -- region 5
      refine AWp.rseq E_ok [0, 1, 2, 4, 5, 6, 11, 18] fun K hK => ?_
      simp [encPat_eq, encInts_eq, monthD_1, monthD_2]
      try simp (disch := omega) only [wrap_i64]
      repeat refine ⟨by first | omega | assumption | (simp only [maxLen]; omega) | (intros; omega) | decide, ?_⟩
      refine hK _ ?_
      clear hK K
      refine AWp.ret ?_
      repeat first | refine thenN ?_ | refine thenX ?_ | refine thenR ?_ | refine blockN ?_ | refine blockR ?_ | refine blockX ?_ | refine blockM rfl ?_
      rw [← hsc, hb]; simp [RetOk, RV, RVs]
    · try simp at h18
      have hb := scan_skip hk2 hn (by simpa using h18)
      refine AWp.skip ?_
      repeat first | refine thenN ?_ | refine thenX ?_ | refine thenR ?_ | refine blockN ?_ | refine blockR ?_ | refine blockX ?_ | refine blockM rfl ?_
      -- region 6
      refine AWp.rend E_ok [0, 1, 2, 4, 5, 6, 11, 18] fun K hK => ?_
      simp [encPat_eq, encInts_eq, monthD_1, monthD_2]
      try simp (disch := omega) only [wrap_i64]
      repeat refine ⟨by first | omega | assumption | (simp only [maxLen]; omega) | (intros; omega) | decide, ?_⟩
      refine hK _ ?_
      clear hK K
      repeat first | refine thenN ?_ | refine thenX ?_ | refine thenR ?_ | refine blockN ?_ | refine blockR ?_ | refine blockX ?_ | refine blockM rfl ?_
      refine ⟨⟨k + 1, by omega, by omega, hb ▸ hsc⟩, ?_, by simp only; omega⟩
      simp [Weak, TW]
end Go.Proofs.Ytceapemkefaicaa

set_option maxRecDepth 100000
set_option linter.unusedSimpArgs false
set_option linter.unusedVariables false
namespace Go.Proofs.Ytceapemkefaicaa
open Go Ab Pl
theorem ref36_Issues (p : Pat) (most unt : Int) (hp : PatOk p) : ACalls E.P 49 [encPat p, .int .i64 most, .int .i64 unt] (.d (encIsss (issR p most unt))) := by
  refine ACalls.intro E_ok Try.func49 rfl rfl Try.ntmps49 Try.results49 (Nat.le_of_ble_eq_true rfl) fun hok base S0 w0 => ?_
  have hfst := hp.2.2.2
  have hmin : min most 5000 = if 5000 < most then 5000 else most := by split <;> omega
  -- region 0
  refine AWp.rseq E_ok [0, 1, 2, 3, 6, 7, 8, 9, 10, 11, 12, 13, 14, 39, 65, 87] fun K hK => ?_
  simp [encPat_eq, encInts_eq, encIss_eq, encIsss_eq, monthD_1, monthD_2]
  try simp (disch := omega) only [wrap_i64]
  repeat refine ⟨by first | omega | assumption | (simp only [maxLen]; omega) | (intros; omega) | decide, ?_⟩
  refine hK _ ?_
  clear hK K
  -- region 1
  refine AWp.rseq E_ok [0, 1, 2, 3, 6, 7, 8, 9, 10, 11, 12, 13, 14, 39, 65, 87] fun K hK => ?_
  simp [encPat_eq, encInts_eq, encIss_eq, encIsss_eq, monthD_1, monthD_2]
  try simp (disch := omega) only [wrap_i64]
  repeat refine ⟨by first | omega | assumption | (simp only [maxLen]; omega) | (intros; omega) | decide, ?_⟩
  refine hK _ ?_
  clear hK K
  -- region 2
  refine AWp.rseq E_ok [0, 1, 2, 3, 6, 7, 8, 9, 10, 11, 12, 13, 14, 39, 65, 87] fun K hK => ?_
  simp [encPat_eq, encInts_eq, encIss_eq, encIsss_eq, monthD_1, monthD_2]
  try simp (disch := omega) only [wrap_i64]
  repeat refine ⟨by first | omega | assumption | (simp only [maxLen]; omega) | (intros; omega) | decide, ?_⟩
  refine hK _ ?_
  clear hK K
  -- region 3
  refine AWp.rseq E_ok [0, 1, 2, 3, 6, 7, 8, 9, 10, 11, 12, 13, 14, 39, 65, 87] fun K hK => ?_
  simp [encPat_eq, encInts_eq, encIss_eq, encIsss_eq, monthD_1, monthD_2]
  try simp (disch := omega) only [wrap_i64]
  repeat refine ⟨by first | omega | assumption | (simp only [maxLen]; omega) | (intros; omega) | decide, ?_⟩
  refine hK _ ?_
  clear hK K
  -- region 4
  refine AWp.rseq E_ok [0, 1, 2, 3, 6, 7, 8, 9, 10, 11, 12, 13, 14, 39, 65, 87] fun K hK => ?_
  simp [encPat_eq, encInts_eq, encIss_eq, encIsss_eq, monthD_1, monthD_2]
  try simp (disch := omega) only [wrap_i64]
  repeat refine ⟨by first | omega | assumption | (simp only [maxLen]; omega) | (intros; omega) | decide, ?_⟩
  refine meet.of (ref36_following p 0 hp (by omega)) ?_
  simp [encPat_eq, encInts_eq, encIss_eq, encIsss_eq, monthD_1, monthD_2]
  try simp (disch := omega) only [wrap_i64]
  repeat refine ⟨by first | omega | assumption | (simp only [maxLen]; omega) | (intros; omega) | decide, ?_⟩
  refine hK _ ?_
  clear hK K
  refine AWp.seq ?_
  refine AWp.block ?_
  refine AWp.loop (ι := { x : List Iss × Nat × Int × Int × (Option Int × Int) // IssI p most unt x.1 x.2.1 x.2.2.1 x.2.2.2.1 x.2.2.2.2 }) (fun x => match x with | ⟨⟨pre, f, vol, num, s⟩, hI⟩ => [(0, T.val (D.agg [D.int IntKind.i64 p.start, D.int IntKind.i64 p.every, D.int IntKind.i64 p.per, D.int IntKind.i64 p.first, (D.int IntKind.i64 0).slice (List.map (D.int IntKind.i64) p.skip), (D.int IntKind.i64 0).slice (List.map (D.int IntKind.i64) p.dbl)])), (1, T.val (D.int IntKind.i64 most)), (2, T.val (D.int IntKind.i64 unt)), (3, T.box [C.d (D.int IntKind.i64 p.start), C.d (D.int IntKind.i64 p.every), C.d (D.int IntKind.i64 p.per), C.d (D.int IntKind.i64 p.first), C.d ((D.int IntKind.i64 0).slice (List.map (D.int IntKind.i64) p.skip)), C.d ((D.int IntKind.i64 0).slice (List.map (D.int IntKind.i64) p.dbl))]), (7, T.own true (encIss zIss) (pre.map encIss)), (8, T.val (.int .i64 vol)), (9, T.val (.int .i64 num)), (10, T.val (.int .i64 (s.1.getD (-1)))), (11, T.val (.int .i64 s.2))]) (fun x => match x with | ⟨⟨pre, f, vol, num, s⟩, hI⟩ => f) ⟨([], 5000, p.first, 1, scan p 0), issI_start hp most unt⟩ ?_ ?_
  · simp [Weak, TW, encPat_eq, encInts_eq, encIss_eq, encIsss_eq, monthD_1, monthD_2]
  rintro ⟨⟨pre, f, vol, num, s⟩, hI⟩
  simp only
  try simp only at hI
  refine AWp.seq ?_
  -- region 5
  refine AWp.rseq E_ok [0, 1, 2, 3, 6, 7, 8, 9, 10, 11, 12, 13, 14, 39, 65, 87] fun K hK => ?_
  simp [encPat_eq, encInts_eq, encIss_eq, encIsss_eq, monthD_1, monthD_2]
  try simp (disch := omega) only [wrap_i64]
  repeat refine ⟨by first | omega | assumption | (simp only [maxLen]; omega) | (intros; omega) | decide, ?_⟩
  refine hK _ ?_
  clear hK K
  refine AWp.cond rfl (fun h39 => ?_) (fun h39 => ?_)
  · try simp at h39
    obtain ⟨d, k, rfl⟩ : ∃ d k, s = (some d, k) := by obtain ⟨so, k⟩ := s; cases so with | none => exact absurd h39.1.1.2 (by simp) | some d => exact ⟨d, k, rfl⟩
    have hlen : pre.length + f = 5000 := hI.2.1
    have hvn := hI.2.2.2.2
    obtain ⟨hd0, hk0, hk1⟩ := hI.2.2.2.2.2.2 d rfl
    simp only at hk0 hk1
    have hper := hp.2.2.1
    refine AWp.skip ?_
    repeat first | refine thenN ?_ | refine thenX ?_ | refine thenR ?_ | refine blockN ?_ | refine blockR ?_ | refine blockX ?_ | refine blockM rfl ?_
    refine AWp.block ?_
    -- region 6
    refine AWp.rseq E_ok [0, 1, 2, 3, 6, 7, 8, 9, 10, 11, 12, 13, 14, 39, 65, 87] fun K hK => ?_
    simp [encPat_eq, encInts_eq, encIss_eq, encIsss_eq, monthD_1, monthD_2]
    try simp (disch := omega) only [wrap_i64]
    repeat refine ⟨by first | omega | assumption | (simp only [maxLen]; omega) | (intros; omega) | decide, ?_⟩
    refine hK _ ?_
    clear hK K
    -- region 7
    refine AWp.rseq E_ok [0, 1, 2, 3, 6, 7, 8, 9, 10, 11, 12, 13, 14, 39, 65, 87] fun K hK => ?_
    simp [encPat_eq, encInts_eq, encIss_eq, encIsss_eq, monthD_1, monthD_2]
    try simp (disch := omega) only [wrap_i64]
    repeat refine ⟨by first | omega | assumption | (simp only [maxLen]; omega) | (intros; omega) | decide, ?_⟩
    refine meet.of (ref36_following p (k + 1) hp (by omega)) ?_
    simp [encPat_eq, encInts_eq, encIss_eq, encIsss_eq, monthD_1, monthD_2]
    try simp (disch := omega) only [wrap_i64]
    repeat refine ⟨by first | omega | assumption | (simp only [maxLen]; omega) | (intros; omega) | decide, ?_⟩
    refine hK _ ?_
    clear hK K
    refine AWp.seq ?_
    -- region 8
    refine AWp.rseqQ E_ok mixed [0, 1, 2, 3, 6, 7, 8, 9, 10, 11, 12, 13, 14, 39, 65, 87] (by kernel_rfl) fun K hK => ?_
    simp [encPat_eq, encInts_eq, encIss_eq, encIsss_eq, monthD_1, monthD_2]
    try simp (disch := omega) only [wrap_i64]
    repeat refine ⟨by first | omega | assumption | (simp only [maxLen]; omega) | (intros; omega) | decide, ?_⟩
    refine meet.of (ref36_month _) ?_
    simp [encPat_eq, encInts_eq, encIss_eq, encIsss_eq, monthD_1, monthD_2]
    try simp (disch := omega) only [wrap_i64]
    repeat refine ⟨by first | omega | assumption | (simp only [maxLen]; omega) | (intros; omega) | decide, ?_⟩
    refine meet.of (ref36_in p.dbl _) ?_
    simp [encPat_eq, encInts_eq, encIss_eq, encIsss_eq, monthD_1, monthD_2]
    try simp (disch := omega) only [wrap_i64]
    repeat refine ⟨by first | omega | assumption | (simp only [maxLen]; omega) | (intros; omega) | decide, ?_⟩
    refine hK _ ?_
    clear hK K
    refine AWp.cond rfl (fun h65 => ?_) (fun h65 => ?_)
    · try simp at h65
      have hdb := (dbl_iff (num := num) (d := d) hp (k := k + 1) (by omega) (by omega)).2 (by simpa using h65)
      obtain ⟨hst, hf1⟩ := issI_dbl hp hI (by rw [hmin]; exact h39.1.1.1) h39.1.2 h39.2 hdb
      have hsc := scan_at hp (k := k + 1) (d := (scan p (k + 1)).1.getD 0) (by omega) (by omega) (by have := (scan_neg hp (k := k + 1) (by omega) (by omega)).1 h65.1.2; obtain ⟨z, hz⟩ := Option.isSome_iff_exists.1 this; rw [hz]; rfl)
      -- region 9
      refine AWp.rseq E_ok [0, 1, 2, 3, 6, 7, 8, 9, 10, 11, 12, 13, 14, 39, 65, 87] fun K hK => ?_
      simp [encPat_eq, encInts_eq, encIss_eq, encIsss_eq, monthD_1, monthD_2]
      try simp (disch := omega) only [wrap_i64]
      repeat refine ⟨by first | omega | assumption | (simp only [maxLen]; omega) | (intros; omega) | decide, ?_⟩
      refine hK _ ?_
      clear hK K
      -- region 10
      refine AWp.rseq E_ok [0, 1, 2, 3, 6, 7, 8, 9, 10, 11, 12, 13, 14, 39, 65, 87] fun K hK => ?_
      simp [encPat_eq, encInts_eq, encIss_eq, encIsss_eq, monthD_1, monthD_2]
      try simp (disch := omega) only [wrap_i64]
      repeat refine ⟨by first | omega | assumption | (simp only [maxLen]; omega) | (intros; omega) | decide, ?_⟩
      refine hK _ ?_
      clear hK K
      -- region 11
      refine AWp.rend E_ok [0, 1, 2, 3, 6, 7, 8, 9, 10, 11, 12, 13, 14, 39, 65, 87] fun K hK => ?_
      simp [encPat_eq, encInts_eq, encIss_eq, encIsss_eq, monthD_1, monthD_2]
      try simp (disch := omega) only [wrap_i64]
      repeat refine ⟨by first | omega | assumption | (simp only [maxLen]; omega) | (intros; omega) | decide, ?_⟩
      refine meet.of (ref36_following p ((scan p (k + 1)).2 + 1) hp (by omega)) ?_
      simp [encPat_eq, encInts_eq, encIss_eq, encIsss_eq, monthD_1, monthD_2]
      try simp (disch := omega) only [wrap_i64]
      repeat refine ⟨by first | omega | assumption | (simp only [maxLen]; omega) | (intros; omega) | decide, ?_⟩
      refine hK _ ?_
      clear hK K
      repeat first | refine thenN ?_ | refine thenX ?_ | refine thenR ?_ | refine blockN ?_ | refine blockR ?_ | refine blockX ?_ | refine blockM rfl ?_
      -- region 12
      refine AWp.rseq E_ok [0, 1, 2, 3, 6, 7, 8, 9, 10, 11, 12, 13, 14, 39, 65, 87] fun K hK => ?_
      simp [encPat_eq, encInts_eq, encIss_eq, encIsss_eq, monthD_1, monthD_2]
      try simp (disch := omega) only [wrap_i64]
      repeat refine ⟨by first | omega | assumption | (simp only [maxLen]; omega) | (intros; omega) | decide, ?_⟩
      refine hK _ ?_
      clear hK K
      -- region 13
      refine AWp.rseq E_ok [0, 1, 2, 3, 6, 7, 8, 9, 10, 11, 12, 13, 14, 39, 65, 87] fun K hK => ?_
      simp [encPat_eq, encInts_eq, encIss_eq, encIsss_eq, monthD_1, monthD_2]
      try simp (disch := omega) only [wrap_i64]
      repeat refine ⟨by first | omega | assumption | (simp only [maxLen]; omega) | (intros; omega) | decide, ?_⟩
      refine hK _ ?_
      clear hK K
      refine AWp.seq ?_
      -- region 14
      refine AWp.rseq E_ok [0, 1, 2, 3, 6, 7, 8, 9, 10, 11, 12, 13, 14, 39, 65, 87] fun K hK => ?_
      simp [encPat_eq, encInts_eq, encIss_eq, encIsss_eq, monthD_1, monthD_2]
      try simp (disch := omega) only [wrap_i64]
      repeat refine ⟨by first | omega | assumption | (simp only [maxLen]; omega) | (intros; omega) | decide, ?_⟩
      refine hK _ ?_
      clear hK K
      refine AWp.cond rfl (fun h87 => ?_) (fun h87 => ?_)
      · try simp at h87
        first | rw [show volN p vol (num + 2) = vol + 1 from if_pos (by omega), show numN p (num + 2) = 1 from if_pos (by omega)] at hst | rw [show volN p vol (num + 1) = vol + 1 from if_pos (by omega), show numN p (num + 1) = 1 from if_pos (by omega)] at hst
        -- region 15
        refine AWp.rseq E_ok [0, 1, 2, 3, 6, 7, 8, 9, 10, 11, 12, 13, 14, 39, 65, 87] fun K hK => ?_
        simp [encPat_eq, encInts_eq, encIss_eq, encIsss_eq, monthD_1, monthD_2]
        try simp (disch := omega) only [wrap_i64]
        repeat refine ⟨by first | omega | assumption | (simp only [maxLen]; omega) | (intros; omega) | decide, ?_⟩
        refine hK _ ?_
        clear hK K
        -- region 16
        refine AWp.rend E_ok [0, 1, 2, 3, 6, 7, 8, 9, 10, 11, 12, 13, 14, 39, 65, 87] fun K hK => ?_
        simp [encPat_eq, encInts_eq, encIss_eq, encIsss_eq, monthD_1, monthD_2]
        try simp (disch := omega) only [wrap_i64]
        repeat refine ⟨by first | omega | assumption | (simp only [maxLen]; omega) | (intros; omega) | decide, ?_⟩
        refine hK _ ?_
        clear hK K
        repeat first | refine thenN ?_ | refine thenX ?_ | refine thenR ?_ | refine blockN ?_ | refine blockR ?_ | refine blockX ?_ | refine blockM rfl ?_
        -- region 17
        refine AWp.rseq E_ok [0, 1, 2, 3, 6, 7, 8, 9, 10, 11, 12, 13, 14, 39, 65, 87] fun K hK => ?_
        simp [encPat_eq, encInts_eq, encIss_eq, encIsss_eq, monthD_1, monthD_2]
        try simp (disch := omega) only [wrap_i64]
        repeat refine ⟨by first | omega | assumption | (simp only [maxLen]; omega) | (intros; omega) | decide, ?_⟩
        refine hK _ ?_
        clear hK K
        -- region 18
        refine AWp.rend E_ok [0, 1, 2, 3, 6, 7, 8, 9, 10, 11, 12, 13, 14, 39, 65, 87] fun K hK => ?_
        simp [encPat_eq, encInts_eq, encIss_eq, encIsss_eq, monthD_1, monthD_2]
        try simp (disch := omega) only [wrap_i64]
        repeat refine ⟨by first | omega | assumption | (simp only [maxLen]; omega) | (intros; omega) | decide, ?_⟩
        refine hK _ ?_
        clear hK K
        repeat first | refine thenN ?_ | refine thenX ?_ | refine thenR ?_ | refine blockN ?_ | refine blockR ?_ | refine blockX ?_ | refine blockM rfl ?_
        refine ⟨⟨(pre ++ [_], f - 1, _, _, _), hst⟩, ?_, by dsimp only; omega⟩
        try dsimp only
        simp [Weak, TW, encIss_eq]
        exact ⟨rfl, rfl⟩
      · try simp at h87
        first | rw [show volN p vol (num + 2) = vol from if_neg (by omega), show numN p (num + 2) = num + 1 + 1 by unfold numN; rw [if_neg (by omega)]; omega] at hst | rw [show volN p vol (num + 1) = vol from if_neg (by omega), show numN p (num + 1) = num + 1 from if_neg (by omega)] at hst
        refine AWp.skip ?_
        repeat first | refine thenN ?_ | refine thenX ?_ | refine thenR ?_ | refine blockN ?_ | refine blockR ?_ | refine blockX ?_ | refine blockM rfl ?_
        -- region 17
        refine AWp.rseq E_ok [0, 1, 2, 3, 6, 7, 8, 9, 10, 11, 12, 13, 14, 39, 65, 87] fun K hK => ?_
        simp [encPat_eq, encInts_eq, encIss_eq, encIsss_eq, monthD_1, monthD_2]
        try simp (disch := omega) only [wrap_i64]
        repeat refine ⟨by first | omega | assumption | (simp only [maxLen]; omega) | (intros; omega) | decide, ?_⟩
        refine hK _ ?_
        clear hK K
        -- region 18
        refine AWp.rend E_ok [0, 1, 2, 3, 6, 7, 8, 9, 10, 11, 12, 13, 14, 39, 65, 87] fun K hK => ?_
        simp [encPat_eq, encInts_eq, encIss_eq, encIsss_eq, monthD_1, monthD_2]
        try simp (disch := omega) only [wrap_i64]
        repeat refine ⟨by first | omega | assumption | (simp only [maxLen]; omega) | (intros; omega) | decide, ?_⟩
        refine hK _ ?_
        clear hK K
        repeat first | refine thenN ?_ | refine thenX ?_ | refine thenR ?_ | refine blockN ?_ | refine blockR ?_ | refine blockX ?_ | refine blockM rfl ?_
        refine ⟨⟨(pre ++ [_], f - 1, _, _, _), hst⟩, ?_, by dsimp only; omega⟩
        try dsimp only
        simp [Weak, TW, encIss_eq]
        exact ⟨rfl, rfl⟩
    · try simp at h65
      have hdb : dblB p num d (scan p (k + 1)) = false := by cases hc : dblB p num d (scan p (k + 1)) with | false => rfl | true => have h1 := (dbl_iff (num := num) (d := d) hp (k := k + 1) (by omega) (by omega)).1 hc; have h2 := h65 (by simpa using h1.1.1) h1.1.2; omega
      obtain ⟨hst, hf1⟩ := issI_one hp hI (by rw [hmin]; exact h39.1.1.1) h39.1.2 h39.2 hdb
      refine AWp.skip ?_
      repeat first | refine thenN ?_ | refine thenX ?_ | refine thenR ?_ | refine blockN ?_ | refine blockR ?_ | refine blockX ?_ | refine blockM rfl ?_
      -- region 12
      refine AWp.rseq E_ok [0, 1, 2, 3, 6, 7, 8, 9, 10, 11, 12, 13, 14, 39, 65, 87] fun K hK => ?_
      simp [encPat_eq, encInts_eq, encIss_eq, encIsss_eq, monthD_1, monthD_2]
      try simp (disch := omega) only [wrap_i64]
      repeat refine ⟨by first | omega | assumption | (simp only [maxLen]; omega) | (intros; omega) | decide, ?_⟩
      refine hK _ ?_
      clear hK K
      -- region 13
      refine AWp.rseq E_ok [0, 1, 2, 3, 6, 7, 8, 9, 10, 11, 12, 13, 14, 39, 65, 87] fun K hK => ?_
      simp [encPat_eq, encInts_eq, encIss_eq, encIsss_eq, monthD_1, monthD_2]
      try simp (disch := omega) only [wrap_i64]
      repeat refine ⟨by first | omega | assumption | (simp only [maxLen]; omega) | (intros; omega) | decide, ?_⟩
      refine hK _ ?_
      clear hK K
      refine AWp.seq ?_
      -- region 14
      refine AWp.rseq E_ok [0, 1, 2, 3, 6, 7, 8, 9, 10, 11, 12, 13, 14, 39, 65, 87] fun K hK => ?_
      simp [encPat_eq, encInts_eq, encIss_eq, encIsss_eq, monthD_1, monthD_2]
      try simp (disch := omega) only [wrap_i64]
      repeat refine ⟨by first | omega | assumption | (simp only [maxLen]; omega) | (intros; omega) | decide, ?_⟩
      refine hK _ ?_
      clear hK K
      refine AWp.cond rfl (fun h87 => ?_) (fun h87 => ?_)
      · try simp at h87
        first | rw [show volN p vol (num + 2) = vol + 1 from if_pos (by omega), show numN p (num + 2) = 1 from if_pos (by omega)] at hst | rw [show volN p vol (num + 1) = vol + 1 from if_pos (by omega), show numN p (num + 1) = 1 from if_pos (by omega)] at hst
        -- region 15
        refine AWp.rseq E_ok [0, 1, 2, 3, 6, 7, 8, 9, 10, 11, 12, 13, 14, 39, 65, 87] fun K hK => ?_
        simp [encPat_eq, encInts_eq, encIss_eq, encIsss_eq, monthD_1, monthD_2]
        try simp (disch := omega) only [wrap_i64]
        repeat refine ⟨by first | omega | assumption | (simp only [maxLen]; omega) | (intros; omega) | decide, ?_⟩
        refine hK _ ?_
        clear hK K
        -- region 16
        refine AWp.rend E_ok [0, 1, 2, 3, 6, 7, 8, 9, 10, 11, 12, 13, 14, 39, 65, 87] fun K hK => ?_
        simp [encPat_eq, encInts_eq, encIss_eq, encIsss_eq, monthD_1, monthD_2]
        try simp (disch := omega) only [wrap_i64]
        repeat refine ⟨by first | omega | assumption | (simp only [maxLen]; omega) | (intros; omega) | decide, ?_⟩
        refine hK _ ?_
        clear hK K
        repeat first | refine thenN ?_ | refine thenX ?_ | refine thenR ?_ | refine blockN ?_ | refine blockR ?_ | refine blockX ?_ | refine blockM rfl ?_
        -- region 17
        refine AWp.rseq E_ok [0, 1, 2, 3, 6, 7, 8, 9, 10, 11, 12, 13, 14, 39, 65, 87] fun K hK => ?_
        simp [encPat_eq, encInts_eq, encIss_eq, encIsss_eq, monthD_1, monthD_2]
        try simp (disch := omega) only [wrap_i64]
        repeat refine ⟨by first | omega | assumption | (simp only [maxLen]; omega) | (intros; omega) | decide, ?_⟩
        refine hK _ ?_
        clear hK K
        -- region 18
        refine AWp.rend E_ok [0, 1, 2, 3, 6, 7, 8, 9, 10, 11, 12, 13, 14, 39, 65, 87] fun K hK => ?_
        simp [encPat_eq, encInts_eq, encIss_eq, encIsss_eq, monthD_1, monthD_2]
        try simp (disch := omega) only [wrap_i64]
        repeat refine ⟨by first | omega | assumption | (simp only [maxLen]; omega) | (intros; omega) | decide, ?_⟩
        refine hK _ ?_
        clear hK K
        repeat first | refine thenN ?_ | refine thenX ?_ | refine thenR ?_ | refine blockN ?_ | refine blockR ?_ | refine blockX ?_ | refine blockM rfl ?_
        refine ⟨⟨(pre ++ [_], f - 1, _, _, _), hst⟩, ?_, by dsimp only; omega⟩
        try dsimp only
        simp [Weak, TW, encIss_eq]
        exact ⟨rfl, rfl⟩
      · try simp at h87
        first | rw [show volN p vol (num + 2) = vol from if_neg (by omega), show numN p (num + 2) = num + 1 + 1 by unfold numN; rw [if_neg (by omega)]; omega] at hst | rw [show volN p vol (num + 1) = vol from if_neg (by omega), show numN p (num + 1) = num + 1 from if_neg (by omega)] at hst
        refine AWp.skip ?_
        repeat first | refine thenN ?_ | refine thenX ?_ | refine thenR ?_ | refine blockN ?_ | refine blockR ?_ | refine blockX ?_ | refine blockM rfl ?_
        -- region 17
        refine AWp.rseq E_ok [0, 1, 2, 3, 6, 7, 8, 9, 10, 11, 12, 13, 14, 39, 65, 87] fun K hK => ?_
        simp [encPat_eq, encInts_eq, encIss_eq, encIsss_eq, monthD_1, monthD_2]
        try simp (disch := omega) only [wrap_i64]
        repeat refine ⟨by first | omega | assumption | (simp only [maxLen]; omega) | (intros; omega) | decide, ?_⟩
        refine hK _ ?_
        clear hK K
        -- region 18
        refine AWp.rend E_ok [0, 1, 2, 3, 6, 7, 8, 9, 10, 11, 12, 13, 14, 39, 65, 87] fun K hK => ?_
        simp [encPat_eq, encInts_eq, encIss_eq, encIsss_eq, monthD_1, monthD_2]
        try simp (disch := omega) only [wrap_i64]
        repeat refine ⟨by first | omega | assumption | (simp only [maxLen]; omega) | (intros; omega) | decide, ?_⟩
        refine hK _ ?_
        clear hK K
        repeat first | refine thenN ?_ | refine thenX ?_ | refine thenR ?_ | refine blockN ?_ | refine blockR ?_ | refine blockX ?_ | refine blockM rfl ?_
        refine ⟨⟨(pre ++ [_], f - 1, _, _, _), hst⟩, ?_, by dsimp only; omega⟩
        try dsimp only
        simp [Weak, TW, encIss_eq]
        exact ⟨rfl, rfl⟩
  · try simp at h39
    have hdn := issI_done hI (by intro hh; have := h39 (hmin ▸ hh.1.1.1) hh.1.1.2 hh.1.2; omega)
    refine AWp.exit ?_
    repeat first | refine thenN ?_ | refine thenX ?_ | refine thenR ?_ | refine blockN ?_ | refine blockR ?_ | refine blockX ?_ | refine blockM rfl ?_
    -- region 19
    refine AWp.rseq E_ok [0, 1, 2, 3, 6, 7, 8, 9, 10, 11, 12, 13, 14, 39, 65, 87] fun K hK => ?_
    simp [encPat_eq, encInts_eq, encIss_eq, encIsss_eq, monthD_1, monthD_2]
    try simp (disch := omega) only [wrap_i64]
    repeat refine ⟨by first | omega | assumption | (simp only [maxLen]; omega) | (intros; omega) | decide, ?_⟩
    refine hK _ ?_
    clear hK K
    refine AWp.ret ?_
    repeat first | refine thenN ?_ | refine thenX ?_ | refine thenR ?_ | refine blockN ?_ | refine blockR ?_ | refine blockX ?_ | refine blockM rfl ?_
    simp [RetOk, RV, RVs, hdn, encIss_eq, encIsss_eq]
end Go.Proofs.Ytceapemkefaicaa

set_option maxRecDepth 100000
set_option linter.unusedSimpArgs false
set_option linter.unusedVariables false
namespace Go.Proofs.Ytceapemkefaicaa
open Go Ab Pl
theorem ref37_listed (x y : Iss) : ACalls E.P 68 [encIss x, encIss y] (.d (.bool (decide (x.vol = y.vol ∧ x.num = y.num ∧ x.last = y.last ∧ x.day = y.day)))) := by
  refine ACalls.intro E_ok Try.func68 rfl rfl Try.ntmps68 Try.results68 (Nat.le_of_ble_eq_true rfl) fun hok base S0 w0 => ?_
  -- region 0
  refine AWp.rseq E_ok [0, 1, 2, 3, 4] fun K hK => ?_
  simp [encIss_eq]
  repeat refine ⟨by first | omega | assumption | (simp only [maxLen]; omega) | (intros; omega) | decide, ?_⟩
  refine hK _ ?_
  clear hK K
  -- region 1
  refine AWp.rseq E_ok [0, 1, 2, 3, 4] fun K hK => ?_
  simp [encIss_eq]
  repeat refine ⟨by first | omega | assumption | (simp only [maxLen]; omega) | (intros; omega) | decide, ?_⟩
  refine hK _ ?_
  clear hK K
  refine AWp.ret ?_
  repeat first | refine thenN ?_ | refine thenX ?_ | refine thenR ?_ | refine blockN ?_ | refine blockR ?_ | refine blockX ?_ | refine blockM rfl ?_
  simp [RetOk, RV]; rw [Bool.eq_iff_iff]; simp [and_assoc]
end Go.Proofs.Ytceapemkefaicaa

set_option maxRecDepth 100000
set_option linter.unusedSimpArgs false
set_option linter.unusedVariables false
namespace Go.Proofs.Ytceapemkefaicaa
open Go Ab Pl
theorem ref37_has (x : Iss) : ACalls E.P 69 [encIss x] (.d (.bool (hasI x))) := by
  refine ACalls.intro E_ok Try.func69 rfl rfl Try.ntmps69 Try.results69 (Nat.le_of_ble_eq_true rfl) fun hok base S0 w0 => ?_
  -- region 0
  refine AWp.rseq E_ok [0, 1, 2] fun K hK => ?_
  simp [encIss_eq]
  repeat refine ⟨by first | omega | assumption | (simp only [maxLen]; omega) | (intros; omega) | decide, ?_⟩
  refine hK _ ?_
  clear hK K
  -- region 1
  refine AWp.rseq E_ok [0, 1, 2] fun K hK => ?_
  simp [encIss_eq]
  repeat refine ⟨by first | omega | assumption | (simp only [maxLen]; omega) | (intros; omega) | decide, ?_⟩
  refine hK _ ?_
  clear hK K
  refine AWp.ret ?_
  repeat first | refine thenN ?_ | refine thenX ?_ | refine thenR ?_ | refine blockN ?_ | refine blockR ?_ | refine blockX ?_ | refine blockM rfl ?_
  simp [RetOk, RV, hasI, Bool.decide_or]; rfl
end Go.Proofs.Ytceapemkefaicaa

set_option maxRecDepth 100000
set_option linter.unusedSimpArgs false
set_option linter.unusedVariables false
namespace Go.Proofs.Ytceapemkefaicaa
open Go Ab Pl
set_option maxHeartbeats 8000000 in
theorem ref37_issues (s : Ser) (hp : PatOk s.pat) (hl : s.iss.length ≤ 128) (hn : 0 ≤ s.next ∧ s.next ≤ 5000) : ACalls E.P 46 [encSer s] (.d (.bool (issB s))) := by
  refine ACalls.intro E_ok Try.func46 rfl rfl Try.ntmps46 Try.results46 (Nat.le_of_ble_eq_true rfl) fun hok base S0 w0 => ?_
  obtain ⟨L, hL⟩ : ∃ L, issR s.pat s.next 109572 = L := ⟨_, rfl⟩
  have hiss := iss_next hp hn hL
  have hL5 : L.length ≤ 5000 := by rw [hiss.1, List.length_take]; omega
  -- region 0
  refine AWp.rseq E_ok [0, 1, 2, 3, 4, 5, 6, 7, 25, 29, 71, 74, 109] fun K hK => ?_
  simp [encSer_eq, encIsss_eq, encIss_eq, hasI_eq, hL]
  try simp (disch := omega) only [wrap_i64]
  repeat refine ⟨by first | omega | assumption | (simp only [maxLen]; omega) | (intros; omega) | decide, ?_⟩
  refine hK _ ?_
  clear hK K
  -- region 1
  refine AWp.rseq E_ok [0, 1, 2, 3, 4, 5, 6, 7, 25, 29, 71, 74, 109] fun K hK => ?_
  simp [encSer_eq, encIsss_eq, encIss_eq, hasI_eq, hL]
  try simp (disch := omega) only [wrap_i64]
  repeat refine ⟨by first | omega | assumption | (simp only [maxLen]; omega) | (intros; omega) | decide, ?_⟩
  refine meet.of (ref36_Issues s.pat s.next 109572 hp) ?_
  simp [encSer_eq, encIsss_eq, encIss_eq, hasI_eq, hL]
  try simp (disch := omega) only [wrap_i64]
  repeat refine ⟨by first | omega | assumption | (simp only [maxLen]; omega) | (intros; omega) | decide, ?_⟩
  refine hK _ ?_
  clear hK K
  refine AWp.seq ?_
  -- region 2
  refine AWp.rseq E_ok [0, 1, 2, 3, 4, 5, 6, 7, 25, 29, 71, 74, 109] fun K hK => ?_
  simp [encSer_eq, encIsss_eq, encIss_eq, hasI_eq, hL]
  try simp (disch := omega) only [wrap_i64]
  repeat refine ⟨by first | omega | assumption | (simp only [maxLen]; omega) | (intros; omega) | decide, ?_⟩
  refine hK _ ?_
  clear hK K
  refine AWp.cond rfl (fun h25 => ?_) (fun h25 => ?_)
  · try simp at h25
    have hb : issB s = false := iss_not (by have := hiss.2; omega)
    -- region 3
    refine AWp.rseq E_ok [0, 1, 2, 3, 4, 5, 6, 7, 25, 29, 71, 74, 109] fun K hK => ?_
    simp [encSer_eq, encIsss_eq, encIss_eq, hasI_eq, hL]
    try simp (disch := omega) only [wrap_i64]
    repeat refine ⟨by first | omega | assumption | (simp only [maxLen]; omega) | (intros; omega) | decide, ?_⟩
    refine hK _ ?_
    clear hK K
    refine AWp.ret ?_
    repeat first | refine thenN ?_ | refine thenX ?_ | refine thenR ?_ | refine blockN ?_ | refine blockR ?_ | refine blockX ?_ | refine blockM rfl ?_
    first | (simp [RetOk, RV, hb]; done) | (rw [hall]; simp [RetOk, RV, ← hs])
  · try simp at h25
    have hall : issB s = okF (allI s.pat) s.iss 0 s.iss := iss_all2 (by have := hiss.2; omega)
    have hLt : L = (allI s.pat).take s.iss.length := by rw [hiss.1]; congr 1; omega
    refine AWp.skip ?_
    repeat first | refine thenN ?_ | refine thenX ?_ | refine thenR ?_ | refine blockN ?_ | refine blockR ?_ | refine blockX ?_ | refine blockM rfl ?_
    refine AWp.seq ?_
    -- region 4
    refine AWp.rseq E_ok [0, 1, 2, 3, 4, 5, 6, 7, 25, 29, 71, 74, 109] fun K hK => ?_
    simp [encSer_eq, encIsss_eq, encIss_eq, hasI_eq, hL]
    try simp (disch := omega) only [wrap_i64]
    repeat refine ⟨by first | omega | assumption | (simp only [maxLen]; omega) | (intros; omega) | decide, ?_⟩
    refine hK _ ?_
    clear hK K
    refine AWp.block ?_
    refine AWp.range (l := s.iss) (F := okF (allI s.pat) s.iss) (tot := okF (allI s.pat) s.iss 0 s.iss) (fun k y => match y with | i => i = k) (fun k y => match y with | i => [(0, T.val (D.agg [D.int IntKind.i64 s.rcd, D.int IntKind.i64 s.pat.start, D.int IntKind.i64 s.pat.every, D.int IntKind.i64 s.pat.per, D.int IntKind.i64 s.pat.first, encInts s.pat.skip, encInts s.pat.dbl, D.int IntKind.i64 s.next, (D.agg [D.int IntKind.i64 zIss.vol, D.int IntKind.i64 zIss.num, D.int IntKind.i64 zIss.last, D.int IntKind.i64 zIss.day, D.int IntKind.i64 zIss.st, D.int IntKind.i64 zIss.item]).slice (List.map encIss s.iss)])), (1, T.box [C.d (D.int IntKind.i64 s.rcd), C.d (D.int IntKind.i64 s.pat.start), C.d (D.int IntKind.i64 s.pat.every), C.d (D.int IntKind.i64 s.pat.per), C.d (D.int IntKind.i64 s.pat.first), C.d (encInts s.pat.skip), C.d (encInts s.pat.dbl), C.d (D.int IntKind.i64 s.next), C.d ((D.agg [D.int IntKind.i64 zIss.vol, D.int IntKind.i64 zIss.num, D.int IntKind.i64 zIss.last, D.int IntKind.i64 zIss.day, D.int IntKind.i64 zIss.st, D.int IntKind.i64 zIss.item]).slice (List.map encIss s.iss))]), (3, T.val ((D.agg [D.int IntKind.i64 zIss.vol, D.int IntKind.i64 zIss.num, D.int IntKind.i64 zIss.last, D.int IntKind.i64 zIss.day, D.int IntKind.i64 zIss.st, D.int IntKind.i64 zIss.item]).slice (List.map encIss L))), (4, T.val (.int .i64 k))]) (0) ?_ rfl ?_ ?_
    · simp [Weak, TW, encSer_eq, encIsss_eq, encIss_eq, hasI_eq]
    · first | exact trivial | (simp; omega) | simp
    rintro k i hk hs hi
    try simp only at hi
    refine AWp.seq ?_
    -- region 5
    refine AWp.rseq E_ok [0, 1, 2, 3, 4, 5, 6, 7, 25, 29, 71, 74, 109] fun K hK => ?_
    simp [encSer_eq, encIsss_eq, encIss_eq, hasI_eq, hL]
    try simp (disch := omega) only [wrap_i64]
    repeat refine ⟨by first | omega | assumption | (simp only [maxLen]; omega) | (intros; omega) | decide, ?_⟩
    refine hK _ ?_
    clear hK K
    refine AWp.cond rfl (fun h29 => ?_) (fun h29 => ?_)
    · try simp at h29
      have hlt : k < s.iss.length := by omega
      obtain ⟨x, hx, hxx, hd⟩ := at_indexG (l := s.iss) hlt
      rw [hd] at hs
      obtain ⟨w, hw1, hw2, _⟩ := at_indexG (l := L) (k := k) (by omega)
      have hwa : (allI s.pat)[k]? = some w := by have := hw1; rw [hLt, List.getElem?_take, if_pos (by omega)] at this; exact this
      have hkL : k < L.length := by omega
      rw [hi] at hs
      refine AWp.skip ?_
      repeat first | refine thenN ?_ | refine thenX ?_ | refine thenR ?_ | refine blockN ?_ | refine blockR ?_ | refine blockX ?_ | refine blockM rfl ?_
      refine AWp.seq ?_
      refine AWp.block ?_
      -- region 7
      refine AWp.rseq E_ok [0, 1, 2, 3, 4, 5, 6, 7, 25, 29, 71, 74, 109] fun K hK => ?_
      simp [encSer_eq, encIsss_eq, encIss_eq, hasI_eq, hL, hw1, hw2, hkL, hx, hxx]
      try simp (disch := omega) only [wrap_i64]
      repeat refine ⟨by first | omega | assumption | (simp only [maxLen]; omega) | (intros; omega) | decide, ?_⟩
      refine hK _ ?_
      clear hK K
      refine AWp.seq ?_
      -- region 8
      refine AWp.rseqQ E_ok mixed [0, 1, 2, 3, 4, 5, 6, 7, 25, 29, 71, 74, 109] (by kernel_rfl) fun K hK => ?_
      simp [encSer_eq, encIsss_eq, encIss_eq, hasI_eq, hL, hw1, hw2, hkL, hx, hxx]
      try simp (disch := omega) only [wrap_i64]
      repeat refine ⟨by first | omega | assumption | (simp only [maxLen]; omega) | (intros; omega) | decide, ?_⟩
      refine meet.of (ref37_listed x w) ?_
      simp [encSer_eq, encIsss_eq, encIss_eq, hasI_eq, hL, hw1, hw2, hkL, hx, hxx]
      try simp (disch := omega) only [wrap_i64]
      repeat refine ⟨by first | omega | assumption | (simp only [maxLen]; omega) | (intros; omega) | decide, ?_⟩
      refine meet.of (ref37_has x) ?_
      simp [encSer_eq, encIsss_eq, encIss_eq, hasI_eq, hL, hw1, hw2, hkL, hx, hxx]
      try simp (disch := omega) only [wrap_i64]
      repeat refine ⟨by first | omega | assumption | (simp only [maxLen]; omega) | (intros; omega) | decide, ?_⟩
      refine hK _ ?_
      clear hK K
      refine AWp.cond rfl (fun h71 => ?_) (fun h71 => ?_)
      · try simp at h71
        simp only [or_dec] at h71
        have hno : ¬ OkI w x := fun hh => by unfold OkI at hh; omega
        rw [okF_no hwa hno] at hs
        -- region 9
        refine AWp.rseq E_ok [0, 1, 2, 3, 4, 5, 6, 7, 25, 29, 71, 74, 109] fun K hK => ?_
        simp [encSer_eq, encIsss_eq, encIss_eq, hasI_eq, hL, hw1, hw2, hkL, hx, hxx]
        try simp (disch := omega) only [wrap_i64]
        repeat refine ⟨by first | omega | assumption | (simp only [maxLen]; omega) | (intros; omega) | decide, ?_⟩
        refine hK _ ?_
        clear hK K
        refine AWp.ret ?_
        repeat first | refine thenN ?_ | refine thenX ?_ | refine thenR ?_ | refine blockN ?_ | refine blockR ?_ | refine blockX ?_ | refine blockM rfl ?_
        first | (simp [RetOk, RV, hb]; done) | (rw [hall]; simp [RetOk, RV, ← hs])
      · try simp at h71
        simp only [or_dec] at h71
        have hok2 : OkI w x := by unfold OkI; omega
        refine AWp.skip ?_
        repeat first | refine thenN ?_ | refine thenX ?_ | refine thenR ?_ | refine blockN ?_ | refine blockR ?_ | refine blockX ?_ | refine blockM rfl ?_
        -- region 10
        refine AWp.rseq E_ok [0, 1, 2, 3, 4, 5, 6, 7, 25, 29, 71, 74, 109] fun K hK => ?_
        simp [encSer_eq, encIsss_eq, encIss_eq, hasI_eq, hL, hw1, hw2, hkL, hx, hxx]
        try simp (disch := omega) only [wrap_i64]
        repeat refine ⟨by first | omega | assumption | (simp only [maxLen]; omega) | (intros; omega) | decide, ?_⟩
        refine hK _ ?_
        clear hK K
        refine AWp.block ?_
        refine AWp.range (l := (s.iss.take k)) (F := clF x) (tot := clF x () (s.iss.take k)) (fun k2 y => match y with | () => True) (fun k2 y => match y with | () => [(0, T.val (D.agg [D.int IntKind.i64 s.rcd, D.int IntKind.i64 s.pat.start, D.int IntKind.i64 s.pat.every, D.int IntKind.i64 s.pat.per, D.int IntKind.i64 s.pat.first, encInts s.pat.skip, encInts s.pat.dbl, D.int IntKind.i64 s.next, (D.agg [D.int IntKind.i64 zIss.vol, D.int IntKind.i64 zIss.num, D.int IntKind.i64 zIss.last, D.int IntKind.i64 zIss.day, D.int IntKind.i64 zIss.st, D.int IntKind.i64 zIss.item]).slice (List.map encIss s.iss)])), (1, T.box [C.d (D.int IntKind.i64 s.rcd), C.d (D.int IntKind.i64 s.pat.start), C.d (D.int IntKind.i64 s.pat.every), C.d (D.int IntKind.i64 s.pat.per), C.d (D.int IntKind.i64 s.pat.first), C.d (encInts s.pat.skip), C.d (encInts s.pat.dbl), C.d (D.int IntKind.i64 s.next), C.d ((D.agg [D.int IntKind.i64 zIss.vol, D.int IntKind.i64 zIss.num, D.int IntKind.i64 zIss.last, D.int IntKind.i64 zIss.day, D.int IntKind.i64 zIss.st, D.int IntKind.i64 zIss.item]).slice (List.map encIss s.iss))]), (3, T.val ((D.agg [D.int IntKind.i64 zIss.vol, D.int IntKind.i64 zIss.num, D.int IntKind.i64 zIss.last, D.int IntKind.i64 zIss.day, D.int IntKind.i64 zIss.st, D.int IntKind.i64 zIss.item]).slice (List.map encIss L))), (4, T.val (D.int IntKind.i64 ↑k)), (5, T.box [C.d (D.int IntKind.i64 x.vol), C.d (D.int IntKind.i64 x.num), C.d (D.int IntKind.i64 x.last), C.d (D.int IntKind.i64 x.day), C.d (D.int IntKind.i64 x.st), C.d (D.int IntKind.i64 x.item)]), (6, T.val (.int .i64 k2))]) () ?_ rfl ?_ ?_
        · simp [Weak, TW, encSer_eq, encIsss_eq, encIss_eq, hasI_eq]
        · first | exact trivial | (simp; omega) | simp
        rintro k2 ⟨⟩ hk2 hs2 hi2
        try simp only at hi2
        refine AWp.seq ?_
        -- region 11
        refine AWp.rseq E_ok [0, 1, 2, 3, 4, 5, 6, 7, 25, 29, 71, 74, 109] fun K hK => ?_
        simp [encSer_eq, encIsss_eq, encIss_eq, hasI_eq, hL, hw1, hw2, hkL, hx, hxx]
        try simp (disch := omega) only [wrap_i64]
        repeat refine ⟨by first | omega | assumption | (simp only [maxLen]; omega) | (intros; omega) | decide, ?_⟩
        refine hK _ ?_
        clear hK K
        refine AWp.cond rfl (fun h74 => ?_) (fun h74 => ?_)
        · try simp at h74
          have hlt2 : k2 < (s.iss.take k).length := by rw [List.length_take]; omega
          obtain ⟨x2, hx2, hxx2, hd2⟩ := at_indexG (l := (s.iss.take k)) hlt2
          rw [hd2] at hs2
          have hk2k : k2 < k := by rw [List.length_take] at hlt2; omega
          have hk2l : k2 < s.iss.length := by omega
          have hy2 : s.iss[k2]? = some x2 := by have := hx2; rw [List.getElem?_take, if_pos hk2k] at this; exact this
          have hz2 : s.iss[k2]'hk2l = x2 := (List.getElem?_eq_some_iff.1 hy2).2
          refine AWp.skip ?_
          repeat first | refine thenN ?_ | refine thenX ?_ | refine thenR ?_ | refine blockN ?_ | refine blockR ?_ | refine blockX ?_ | refine blockM rfl ?_
          refine AWp.seq ?_
          refine AWp.block ?_
          -- region 13
          refine AWp.rseq E_ok [0, 1, 2, 3, 4, 5, 6, 7, 25, 29, 71, 74, 109] fun K hK => ?_
          simp [encSer_eq, encIsss_eq, encIss_eq, hasI_eq, hL, hw1, hw2, hkL, hx, hxx, hk2k, hk2l, hy2, hz2, hx2, hxx2]
          try simp (disch := omega) only [wrap_i64]
          repeat refine ⟨by first | omega | assumption | (simp only [maxLen]; omega) | (intros; omega) | decide, ?_⟩
          refine hK _ ?_
          clear hK K
          -- region 14
          refine AWp.rseq E_ok [0, 1, 2, 3, 4, 5, 6, 7, 25, 29, 71, 74, 109] fun K hK => ?_
          simp [encSer_eq, encIsss_eq, encIss_eq, hasI_eq, hL, hw1, hw2, hkL, hx, hxx, hk2k, hk2l, hy2, hz2, hx2, hxx2]
          try simp (disch := omega) only [wrap_i64]
          repeat refine ⟨by first | omega | assumption | (simp only [maxLen]; omega) | (intros; omega) | decide, ?_⟩
          refine hK _ ?_
          clear hK K
          refine AWp.cond rfl (fun h109 => ?_) (fun h109 => ?_)
          · try simp at h109
            have hcl : Clash x x2 := by unfold Clash; omega
            rw [clF, if_pos hcl] at hs2
            rw [okF_cl hwa hok2 hs2.symm] at hs
            -- region 15
            refine AWp.rseq E_ok [0, 1, 2, 3, 4, 5, 6, 7, 25, 29, 71, 74, 109] fun K hK => ?_
            simp [encSer_eq, encIsss_eq, encIss_eq, hasI_eq, hL, hw1, hw2, hkL, hx, hxx, hk2k, hk2l, hy2, hz2, hx2, hxx2]
            try simp (disch := omega) only [wrap_i64]
            repeat refine ⟨by first | omega | assumption | (simp only [maxLen]; omega) | (intros; omega) | decide, ?_⟩
            refine hK _ ?_
            clear hK K
            refine AWp.ret ?_
            repeat first | refine thenN ?_ | refine thenX ?_ | refine thenR ?_ | refine blockN ?_ | refine blockR ?_ | refine blockX ?_ | refine blockM rfl ?_
            first | (simp [RetOk, RV, hb]; done) | (rw [hall]; simp [RetOk, RV, ← hs])
          · try simp at h109
            have hcl : ¬ Clash x x2 := by unfold Clash; omega
            rw [clF, if_neg hcl] at hs2
            refine AWp.skip ?_
            repeat first | refine thenN ?_ | refine thenX ?_ | refine thenR ?_ | refine blockN ?_ | refine blockR ?_ | refine blockX ?_ | refine blockM rfl ?_
            -- region 12
            refine AWp.rend E_ok [0, 1, 2, 3, 4, 5, 6, 7, 25, 29, 71, 74, 109] fun K hK => ?_
            simp [encSer_eq, encIsss_eq, encIss_eq, hasI_eq, hL, hw1, hw2, hkL, hx, hxx, hk2k, hk2l, hy2, hz2, hx2, hxx2]
            try simp (disch := omega) only [wrap_i64]
            repeat refine ⟨by first | omega | assumption | (simp only [maxLen]; omega) | (intros; omega) | decide, ?_⟩
            refine hK _ ?_
            clear hK K
            repeat first | refine thenN ?_ | refine thenX ?_ | refine thenR ?_ | refine blockN ?_ | refine blockR ?_ | refine blockX ?_ | refine blockM rfl ?_
            have hw2 : IntKind.i64.wrap ((k2 : Int) + 1) = (k2 : Int) + 1 := by rw [wrap_i64] <;> omega
            skip
            refine ⟨_, hlt2, hs2, ?_, ?_⟩
            · first | exact trivial | (simp; omega) | simp
            · simp [Weak, TW, hw2, encSer_eq, encIsss_eq, encIss_eq, hasI_eq] <;> omega
        · try simp at h74
          obtain rfl : k2 = (s.iss.take k).length := by rw [List.length_take] at hk2 ⊢; omega
          simp only [List.drop_length, clF] at hs2
          rw [okF_go hwa hok2 hs2.symm] at hs
          refine AWp.exit ?_
          repeat first | refine thenN ?_ | refine thenX ?_ | refine thenR ?_ | refine blockN ?_ | refine blockR ?_ | refine blockX ?_ | refine blockM rfl ?_
          -- region 6
          refine AWp.rend E_ok [0, 1, 2, 3, 4, 5, 6, 7, 25, 29, 71, 74, 109] fun K hK => ?_
          simp [encSer_eq, encIsss_eq, encIss_eq, hasI_eq, hL, hw1, hw2, hkL, hx, hxx]
          try simp (disch := omega) only [wrap_i64]
          repeat refine ⟨by first | omega | assumption | (simp only [maxLen]; omega) | (intros; omega) | decide, ?_⟩
          refine hK _ ?_
          clear hK K
          repeat first | refine thenN ?_ | refine thenX ?_ | refine thenR ?_ | refine blockN ?_ | refine blockR ?_ | refine blockX ?_ | refine blockM rfl ?_
          have hw : IntKind.i64.wrap ((k : Int) + 1) = (k : Int) + 1 := by rw [wrap_i64] <;> omega
          skip
          refine ⟨_, hlt, hs, ?_, ?_⟩
          · first | exact trivial | (simp; omega) | simp
          · simp [Weak, TW, hw, encSer_eq, encIsss_eq, encIss_eq, hasI_eq] <;> omega
    · try simp at h29
      obtain rfl : k = s.iss.length := by omega
      simp [okF] at hs
      refine AWp.exit ?_
      repeat first | refine thenN ?_ | refine thenX ?_ | refine thenR ?_ | refine blockN ?_ | refine blockR ?_ | refine blockX ?_ | refine blockM rfl ?_
      -- region 16
      refine AWp.rseq E_ok [0, 1, 2, 3, 4, 5, 6, 7, 25, 29, 71, 74, 109] fun K hK => ?_
      simp [encSer_eq, encIsss_eq, encIss_eq, hasI_eq, hL]
      try simp (disch := omega) only [wrap_i64]
      repeat refine ⟨by first | omega | assumption | (simp only [maxLen]; omega) | (intros; omega) | decide, ?_⟩
      refine hK _ ?_
      clear hK K
      refine AWp.ret ?_
      repeat first | refine thenN ?_ | refine thenX ?_ | refine thenR ?_ | refine blockN ?_ | refine blockR ?_ | refine blockX ?_ | refine blockM rfl ?_
      first | (simp [RetOk, RV, hb]; done) | (rw [hall]; simp [RetOk, RV, ← hs])
end Go.Proofs.Ytceapemkefaicaa

set_option maxRecDepth 100000
set_option linter.unusedSimpArgs false
set_option linter.unusedVariables false
namespace Go.Proofs.Ytceapemkefaicaa
open Go Ab Pl
theorem ref37_Right (s : Ser) : ACalls E.P 16 [encSer s] (.d (.int .i64 (serR s))) := by
  refine ACalls.intro E_ok Try.func16 rfl rfl Try.ntmps16 Try.results16 (Nat.le_of_ble_eq_true rfl) fun hok base S0 w0 => ?_
  have hl9 : s.iss.length ≤ 9223372036854775807 := by have := Ok_agg (hok (encSer s) (by simp)) (encIsss s.iss) (by simp [encSer_eq]); have := (Ok_slice this).1; simpa using this
  have hpr := patR_rng s.pat
  -- region 0
  refine AWp.rseq E_ok [0, 1, 2, 3, 11, 16, 21, 29, 32] fun K hK => ?_
  simp [encSer_eq, encIsss_eq, encIss_eq, patR_1, patR_2]
  repeat refine ⟨by first | omega | assumption | (simp only [maxLen]; omega) | (intros; omega) | decide, ?_⟩
  refine hK _ ?_
  clear hK K
  refine AWp.seq ?_
  -- region 1
  refine AWp.rseq E_ok [0, 1, 2, 3, 11, 16, 21, 29, 32] fun K hK => ?_
  simp [encSer_eq, encIsss_eq, encIss_eq, patR_1, patR_2]
  repeat refine ⟨by first | omega | assumption | (simp only [maxLen]; omega) | (intros; omega) | decide, ?_⟩
  refine hK _ ?_
  clear hK K
  refine AWp.cond rfl (fun h11 => ?_) (fun h11 => ?_)
  · try simp at h11
    have hb : serR s = 2 := if_pos (by omega)
    -- region 2
    refine AWp.rseq E_ok [0, 1, 2, 3, 11, 16, 21, 29, 32] fun K hK => ?_
    simp [encSer_eq, encIsss_eq, encIss_eq, patR_1, patR_2]
    repeat refine ⟨by first | omega | assumption | (simp only [maxLen]; omega) | (intros; omega) | decide, ?_⟩
    refine hK _ ?_
    clear hK K
    refine AWp.ret ?_
    repeat first | refine thenN ?_ | refine thenX ?_ | refine thenR ?_ | refine blockN ?_ | refine blockR ?_ | refine blockX ?_ | refine blockM rfl ?_
    simp [RetOk, RV, hb]
  · try simp at h11
    refine AWp.skip ?_
    repeat first | refine thenN ?_ | refine thenX ?_ | refine thenR ?_ | refine blockN ?_ | refine blockR ?_ | refine blockX ?_ | refine blockM rfl ?_
    -- region 3
    refine AWp.rseq E_ok [0, 1, 2, 3, 11, 16, 21, 29, 32] fun K hK => ?_
    simp [encSer_eq, encIsss_eq, encIss_eq, patR_1, patR_2]
    repeat refine ⟨by first | omega | assumption | (simp only [maxLen]; omega) | (intros; omega) | decide, ?_⟩
    refine meet.of (ref36_Right s.pat) ?_
    simp [encSer_eq, encIsss_eq, encIss_eq, patR_1, patR_2]
    repeat refine ⟨by first | omega | assumption | (simp only [maxLen]; omega) | (intros; omega) | decide, ?_⟩
    refine hK _ ?_
    clear hK K
    refine AWp.seq ?_
    -- region 4
    refine AWp.rseq E_ok [0, 1, 2, 3, 11, 16, 21, 29, 32] fun K hK => ?_
    simp [encSer_eq, encIsss_eq, encIss_eq, patR_1, patR_2]
    repeat refine ⟨by first | omega | assumption | (simp only [maxLen]; omega) | (intros; omega) | decide, ?_⟩
    refine hK _ ?_
    clear hK K
    refine AWp.cond rfl (fun h16 => ?_) (fun h16 => ?_)
    · try simp at h16
      have hb : serR s = patR s.pat := by unfold serR; rw [if_neg (by omega), if_pos h16]
      -- region 5
      refine AWp.rseq E_ok [0, 1, 2, 3, 11, 16, 21, 29, 32] fun K hK => ?_
      simp [encSer_eq, encIsss_eq, encIss_eq, patR_1, patR_2]
      repeat refine ⟨by first | omega | assumption | (simp only [maxLen]; omega) | (intros; omega) | decide, ?_⟩
      refine hK _ ?_
      clear hK K
      refine AWp.ret ?_
      repeat first | refine thenN ?_ | refine thenX ?_ | refine thenR ?_ | refine blockN ?_ | refine blockR ?_ | refine blockX ?_ | refine blockM rfl ?_
      simp [RetOk, RV, hb]
    · try simp at h16
      have hp : PatOk s.pat := patR_ok (by omega)
      refine AWp.skip ?_
      repeat first | refine thenN ?_ | refine thenX ?_ | refine thenR ?_ | refine blockN ?_ | refine blockR ?_ | refine blockX ?_ | refine blockM rfl ?_
      refine AWp.seq ?_
      -- region 6
      refine AWp.rseq E_ok [0, 1, 2, 3, 11, 16, 21, 29, 32] fun K hK => ?_
      simp [encSer_eq, encIsss_eq, encIss_eq, patR_1, patR_2]
      repeat refine ⟨by first | omega | assumption | (simp only [maxLen]; omega) | (intros; omega) | decide, ?_⟩
      refine hK _ ?_
      clear hK K
      refine AWp.cond rfl (fun h21 => ?_) (fun h21 => ?_)
      · try simp at h21
        have hb : serR s = 13 := by unfold serR; rw [if_neg (by omega), if_neg (by omega), if_pos (by omega)]
        -- region 7
        refine AWp.rseq E_ok [0, 1, 2, 3, 11, 16, 21, 29, 32] fun K hK => ?_
        simp [encSer_eq, encIsss_eq, encIss_eq, patR_1, patR_2]
        repeat refine ⟨by first | omega | assumption | (simp only [maxLen]; omega) | (intros; omega) | decide, ?_⟩
        refine hK _ ?_
        clear hK K
        refine AWp.ret ?_
        repeat first | refine thenN ?_ | refine thenX ?_ | refine thenR ?_ | refine blockN ?_ | refine blockR ?_ | refine blockX ?_ | refine blockM rfl ?_
        simp [RetOk, RV, hb]
      · try simp at h21
        refine AWp.skip ?_
        repeat first | refine thenN ?_ | refine thenX ?_ | refine thenR ?_ | refine blockN ?_ | refine blockR ?_ | refine blockX ?_ | refine blockM rfl ?_
        refine AWp.seq ?_
        -- region 8
        refine AWp.rseq E_ok [0, 1, 2, 3, 11, 16, 21, 29, 32] fun K hK => ?_
        simp [encSer_eq, encIsss_eq, encIss_eq, patR_1, patR_2]
        repeat refine ⟨by first | omega | assumption | (simp only [maxLen]; omega) | (intros; omega) | decide, ?_⟩
        refine hK _ ?_
        clear hK K
        refine AWp.cond rfl (fun h29 => ?_) (fun h29 => ?_)
        · try simp at h29
          have hb : serR s = 2 := by unfold serR; rw [if_neg (by omega), if_neg (by omega), if_neg (by omega), if_pos (by omega)]
          -- region 9
          refine AWp.rseq E_ok [0, 1, 2, 3, 11, 16, 21, 29, 32] fun K hK => ?_
          simp [encSer_eq, encIsss_eq, encIss_eq, patR_1, patR_2]
          repeat refine ⟨by first | omega | assumption | (simp only [maxLen]; omega) | (intros; omega) | decide, ?_⟩
          refine hK _ ?_
          clear hK K
          refine AWp.ret ?_
          repeat first | refine thenN ?_ | refine thenX ?_ | refine thenR ?_ | refine blockN ?_ | refine blockR ?_ | refine blockX ?_ | refine blockM rfl ?_
          simp [RetOk, RV, hb]
        · try simp at h29
          have hrest : serR s = if issB s = true then 0 else 1 := serR_iss (by omega) (by omega) (by omega) (by omega)
          refine AWp.skip ?_
          repeat first | refine thenN ?_ | refine thenX ?_ | refine thenR ?_ | refine blockN ?_ | refine blockR ?_ | refine blockX ?_ | refine blockM rfl ?_
          refine AWp.seq ?_
          -- region 10
          refine AWp.rseq E_ok [0, 1, 2, 3, 11, 16, 21, 29, 32] fun K hK => ?_
          simp [encSer_eq, encIsss_eq, encIss_eq, patR_1, patR_2]
          repeat refine ⟨by first | omega | assumption | (simp only [maxLen]; omega) | (intros; omega) | decide, ?_⟩
          refine meet.of (ref37_issues s hp (by omega) (by omega)) ?_
          simp [encSer_eq, encIsss_eq, encIss_eq, patR_1, patR_2]
          repeat refine ⟨by first | omega | assumption | (simp only [maxLen]; omega) | (intros; omega) | decide, ?_⟩
          refine hK _ ?_
          clear hK K
          refine AWp.cond rfl (fun h32 => ?_) (fun h32 => ?_)
          · try simp at h32
            have hb : serR s = 1 := by rw [hrest, h32]; rfl
            -- region 11
            refine AWp.rseq E_ok [0, 1, 2, 3, 11, 16, 21, 29, 32] fun K hK => ?_
            simp [encSer_eq, encIsss_eq, encIss_eq, patR_1, patR_2]
            repeat refine ⟨by first | omega | assumption | (simp only [maxLen]; omega) | (intros; omega) | decide, ?_⟩
            refine hK _ ?_
            clear hK K
            refine AWp.ret ?_
            repeat first | refine thenN ?_ | refine thenX ?_ | refine thenR ?_ | refine blockN ?_ | refine blockR ?_ | refine blockX ?_ | refine blockM rfl ?_
            simp [RetOk, RV, hb]
          · try simp at h32
            have hb : serR s = 0 := by rw [hrest, h32]; rfl
            refine AWp.skip ?_
            repeat first | refine thenN ?_ | refine thenX ?_ | refine thenR ?_ | refine blockN ?_ | refine blockR ?_ | refine blockX ?_ | refine blockM rfl ?_
            -- region 12
            refine AWp.rseq E_ok [0, 1, 2, 3, 11, 16, 21, 29, 32] fun K hK => ?_
            simp [encSer_eq, encIsss_eq, encIss_eq, patR_1, patR_2]
            repeat refine ⟨by first | omega | assumption | (simp only [maxLen]; omega) | (intros; omega) | decide, ?_⟩
            refine hK _ ?_
            clear hK K
            refine AWp.ret ?_
            repeat first | refine thenN ?_ | refine thenX ?_ | refine thenR ?_ | refine blockN ?_ | refine blockR ?_ | refine blockX ?_ | refine blockM rfl ?_
            simp [RetOk, RV, hb]
end Go.Proofs.Ytceapemkefaicaa

set_option maxRecDepth 100000
set_option linter.unusedSimpArgs false
set_option linter.unusedVariables false
namespace Go.Proofs.Ytceapemkefaicaa
open Go Ab Pl
theorem law37_valid (s : Ser) : ACalls E.P 21 [encSer s] (.d (.bool (smallS s && decide (serR s = 0)))) := by
  refine ACalls.intro E_ok Try.func21 rfl rfl Try.ntmps21 Try.results21 (Nat.le_of_ble_eq_true rfl) fun hok base S0 w0 => ?_
  -- region 0
  refine AWp.rseq E_ok [0, 1, 2] fun K hK => ?_
  simp [encSer_eq, encIsss_eq, serR_1, serR_2]
  repeat refine ⟨by first | omega | assumption | (simp only [maxLen]; omega) | (intros; omega) | decide, ?_⟩
  refine hK _ ?_
  clear hK K
  -- region 1
  refine AWp.rseq E_ok [0, 1, 2] fun K hK => ?_
  simp [encSer_eq, encIsss_eq, serR_1, serR_2]
  repeat refine ⟨by first | omega | assumption | (simp only [maxLen]; omega) | (intros; omega) | decide, ?_⟩
  refine meet.of (ref37_Small s) ?_
  simp [encSer_eq, encIsss_eq, serR_1, serR_2]
  repeat refine ⟨by first | omega | assumption | (simp only [maxLen]; omega) | (intros; omega) | decide, ?_⟩
  refine meet.of (ref37_Right s) ?_
  simp [encSer_eq, encIsss_eq, serR_1, serR_2]
  repeat refine ⟨by first | omega | assumption | (simp only [maxLen]; omega) | (intros; omega) | decide, ?_⟩
  refine hK _ ?_
  clear hK K
  refine AWp.ret ?_
  repeat first | refine thenN ?_ | refine thenX ?_ | refine thenR ?_ | refine blockN ?_ | refine blockR ?_ | refine blockX ?_ | refine blockM rfl ?_
  simp [RetOk, RV]; rfl
end Go.Proofs.Ytceapemkefaicaa

set_option maxRecDepth 100000
set_option linter.unusedSimpArgs false
set_option linter.unusedVariables false
namespace Go.Proofs.Ytceapemkefaicaa
open Go Ab Pl
theorem ref37_numbered (x : Iss) (n : Int) : ACalls E.P 77 [encIss x, .int .i64 n] (.d (.bool (decide (x.num = n ∨ x.num ≤ n ∧ n ≤ x.last)))) := by
  refine ACalls.intro E_ok Try.func77 rfl rfl Try.ntmps77 Try.results77 (Nat.le_of_ble_eq_true rfl) fun hok base S0 w0 => ?_
  -- region 0
  refine AWp.rseq E_ok [0, 1, 2, 4] fun K hK => ?_
  simp [encIss_eq]
  repeat refine ⟨by first | omega | assumption | (simp only [maxLen]; omega) | (intros; omega) | decide, ?_⟩
  refine hK _ ?_
  clear hK K
  -- region 1
  refine AWp.rseq E_ok [0, 1, 2, 4] fun K hK => ?_
  simp [encIss_eq]
  repeat refine ⟨by first | omega | assumption | (simp only [maxLen]; omega) | (intros; omega) | decide, ?_⟩
  refine hK _ ?_
  clear hK K
  refine AWp.ret ?_
  repeat first | refine thenN ?_ | refine thenX ?_ | refine thenR ?_ | refine blockN ?_ | refine blockR ?_ | refine blockX ?_ | refine blockM rfl ?_
  simp [RetOk, RV]; rw [Bool.eq_iff_iff]; simp
end Go.Proofs.Ytceapemkefaicaa
