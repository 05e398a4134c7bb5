/-
  What the functions compute that the statement reaches: contracts, and the plain laws between them. Conditions stand at each theorem.
-/
import Derived.Test.YtceapemkefaicaaWalkSix
set_option linter.unusedVariables false
set_option linter.unusedSimpArgs false
/- Serials: how long things are. -/
namespace Pl
open Go Ab
set_option linter.unusedVariables false
set_option linter.unusedSimpArgs false
theorem small_ok {s : Ser} (h : smallS s = true) : s.iss.length ≤ 140 ∧ s.pat.skip.length ≤ 20 ∧ s.pat.dbl.length ≤ 20 := by
  unfold smallS at h; simp at h; omega
def LenS (s : Ser) : Prop := s.pat.skip.length ≤ 100000 ∧ s.pat.dbl.length ≤ 100000 ∧ s.iss.length ≤ 100000
theorem len_z : LenS zSer := by unfold LenS; decide
theorem len_new (r : Int) {p : Pat} (h : (0 : Nat) ≤ 140 ∧ p.skip.length ≤ 20 ∧ p.dbl.length ≤ 20) : LenS (newR r p).1 := by
  unfold newR
  split
  · exact len_z
  · split
    · exact len_z
    · unfold LenS; simp; omega
theorem len_exp {s : Ser} (d : Int) (h : s.iss.length ≤ 140 ∧ s.pat.skip.length ≤ 20 ∧ s.pat.dbl.length ≤ 20) : LenS (expR s d).1 := by
  have := list_len s.pat s.next (untilR s.pat d - s.next)
  unfold expR
  split
  · unfold LenS; simp only; omega
  · split
    · exact len_z
    · unfold LenS; simp only [List.length_append]; omega
theorem len_rec {s : Ser} (v n it : Int) (h : s.iss.length ≤ 140 ∧ s.pat.skip.length ≤ 20 ∧ s.pat.dbl.length ≤ 20) : LenS (recR s v n it).1 := by
  unfold recR
  split
  · exact len_z
  · split
    · exact len_z
    · split
      · exact len_z
      · unfold LenS; simp only [List.length_set]; omega
theorem len_miss {s : Ser} (v n : Int) (h : s.iss.length ≤ 140 ∧ s.pat.skip.length ≤ 20 ∧ s.pat.dbl.length ≤ 20) : LenS (missR s v n).1 := by
  unfold missR
  split
  · exact len_z
  · split
    · exact len_z
    · unfold LenS; simp only [List.length_set]; omega
theorem len_claim {s : Ser} (d w : Int) (h : s.iss.length ≤ 140 ∧ s.pat.skip.length ≤ 20 ∧ s.pat.dbl.length ≤ 20) : LenS (claimR s d w).1 := by
  unfold claimR LenS; simp only [List.length_map]; omega
theorem len_claim2 {s : Ser} (d w : Int) (h : s.iss.length ≤ 140 ∧ s.pat.skip.length ≤ 20 ∧ s.pat.dbl.length ≤ 20) : (claimR s d w).2.length ≤ 100000 := by
  have := lateIx_len d w s.iss 0
  unfold claimR; simp only; omega
theorem len_bind {s : Ser} (v it : Int) (h : s.iss.length ≤ 140 ∧ s.pat.skip.length ≤ 20 ∧ s.pat.dbl.length ≤ 20) : LenS (bindR s v it).1 := by
  unfold bindR
  split
  · exact len_z
  · split
    · exact len_z
    · split
      · exact len_z
      · unfold LenS; simp only [List.length_map]; omega
theorem SerOk.free {s : Ser} (h : SerOk s) {x : Iss} (hx : x ∈ s.iss) (hs : x.st = 1 ∨ x.st = 3) : x.item = 0 := by
  obtain ⟨i, hi⟩ := List.getElem?_of_mem hx
  have := h.iss hi; omega
theorem iss_rec {s : Ser} (v n it : Int) (h : s.iss.length ≤ 1000) : (recR s v n it).1.iss.length ≤ 1000 := by
  unfold recR
  split
  · exact Nat.zero_le _
  · split
    · exact Nat.zero_le _
    · split
      · exact Nat.zero_le _
      · simp only [List.length_set]; exact h
theorem iss_miss {s : Ser} (v n : Int) (h : s.iss.length ≤ 1000) : (missR s v n).1.iss.length ≤ 1000 := by
  unfold missR
  split
  · exact Nat.zero_le _
  · split
    · exact Nat.zero_le _
    · simp only [List.length_set]; exact h
theorem iss_bind {s : Ser} (v it : Int) (h : s.iss.length ≤ 1000) : (bindR s v it).1.iss.length ≤ 1000 := by
  unfold bindR
  split
  · exact Nat.zero_le _
  · split
    · exact Nat.zero_le _
    · split
      · exact Nat.zero_le _
      · simp only [List.length_map]; exact h
theorem iss_claim {s : Ser} (d w : Int) (h : s.iss.length ≤ 1000) : (claimR s d w).1.iss.length ≤ 1000 := by
  unfold claimR; simp only [List.length_map]; exact h
theorem claim_again (s : Ser) (d w : Int) : (claimR (claimR s d w).1 d w).2 = [] := late_none _ _
/-- a loop that finds no fault -/
def trU {α : Type} : Unit → List α → Bool
  | _, [] => true
  | _, _ :: l => trU () l
def FndC (v n : Int) (x : Iss) : Prop := (x.vol = v ∧ (x.num = n ∨ x.num ≤ n ∧ n ≤ x.last)) ∧ (x.st = 2 ∨ x.st = 4)
instance (v n : Int) (x : Iss) : Decidable (FndC v n x) := by unfold FndC; infer_instance
def fndB (v n : Int) : Bool → List Iss → Bool
  | b, [] => b
  | b, x :: l => fndB v n (b || decide (FndC v n x)) l
theorem fndB_true (v n : Int) : ∀ l : List Iss, fndB v n true l = true
  | [] => rfl
  | x :: l => by unfold fndB; rw [Bool.true_or]; exact fndB_true v n l
theorem fndB_mem {v n : Int} : ∀ {l : List Iss} (b : Bool) {y : Iss}, y ∈ l → FndC v n y → fndB v n b l = true
  | x :: l, b, y, hy, hf => by
    unfold fndB
    rcases List.mem_cons.1 hy with rfl | hy
    · rw [decide_eq_true hf, Bool.or_true]; exact fndB_true v n l
    · exact fndB_mem _ hy hf
theorem held_fnd {s : Ser} (h : SerOk s) {v n : Int} (hv : heldB s.iss s.pat.per v = true) (h1 : 1 ≤ n) (h2 : n ≤ s.pat.per) : fndB v n false s.iss = true := by
  obtain ⟨y, hy, hn, hs⟩ := held_num h hv h1 h2
  exact fndB_mem false hy ⟨hn, hs⟩
theorem gap_len : ∀ (l : List Iss) (i : Int), (gapF i l).length ≤ l.length
  | [], _ => by simp [gapF]
  | x :: l, i => by
    have := gap_len l (i + 1)
    unfold gapF
    split
    · simp only [List.length_cons]; omega
    · simp only [List.length_cons]; omega
theorem len_gaps {s : Ser} (h : SerOk s) : (gapsR s).length ≤ 100000 := by have := gap_len s.iss 0; have := h.len; unfold gapsR; omega
theorem addS_len (o : List Spn) (v : Int) : (addS o v).length ≤ o.length + 1 := by
  unfold addS
  split
  · split
    · simp <;> omega
    · simp
  · simp
theorem hld_len (l : List Iss) (per : Int) : ∀ (r : List Iss) (i : Nat) (o : List Spn), (hldF l per (i, o) r).length ≤ o.length + r.length
  | [], i, o => by simp [hldF]
  | x :: r, i, o => by
    rw [hldF_go]
    split
    · have := hld_len l per r (i + 1) o; simp only [List.length_cons]; omega
    · have := hld_len l per r (i + 1) (addS o x.vol); have := addS_len o x.vol; simp only [List.length_cons]; omega
theorem len_held {s : Ser} (h : SerOk s) : (heldR s).length ≤ 100000 := by have h1 := hld_len s.iss s.pat.per s.iss 0 []; have h2 := h.len; unfold heldR; rw [List.length_nil] at h1; omega
end Pl

set_option maxRecDepth 100000
set_option linter.unusedSimpArgs false
set_option linter.unusedVariables false
namespace Go.Proofs.Ytceapemkefaicaa
open Go Ab Pl
theorem ref37_Small (s : Ser) : ACalls E.P 14 [encSer s] (.d (.bool (smallS s))) := by
  refine ACalls.intro E_ok Try.func14 rfl rfl Try.ntmps14 Try.results14 (Nat.le_of_ble_eq_true rfl) fun hok base S0 w0 => ?_
  -- region 0
  refine AWp.rseq E_ok [0, 1, 2] fun K hK => ?_
  simp [encSer_eq, encIsss_eq, encInts_eq]
  repeat refine ⟨by first | omega | assumption | (simp only [maxLen]; omega) | (intros; omega) | decide, ?_⟩
  refine hK _ ?_
  clear hK K
  -- region 1
  refine AWp.rseq E_ok [0, 1, 2] fun K hK => ?_
  simp [encSer_eq, encIsss_eq, encInts_eq]
  repeat refine ⟨by first | omega | assumption | (simp only [maxLen]; omega) | (intros; omega) | decide, ?_⟩
  refine hK _ ?_
  clear hK K
  refine AWp.ret ?_
  repeat first | refine thenN ?_ | refine thenX ?_ | refine thenR ?_ | refine blockN ?_ | refine blockR ?_ | refine blockX ?_ | refine blockM rfl ?_
  simp [RetOk, RV, smallS]; rw [Bool.eq_iff_iff]; simp; omega
end Go.Proofs.Ytceapemkefaicaa

set_option maxRecDepth 100000
set_option linter.unusedSimpArgs false
set_option linter.unusedVariables false
namespace Go.Proofs.Ytceapemkefaicaa
open Go Ab Pl
set_option maxHeartbeats 8000000 in
theorem law37_SerialCovers (s : Ser) (nn : Int) : ACalls E.P 12 [encSer s, .int .u16 nn] (.d (.bool true)) := by
  refine ACalls.intro E_ok Try.func12 rfl rfl Try.ntmps12 Try.results12 (Nat.le_of_ble_eq_true rfl) fun hok base S0 w0 => ?_
  have hm := Ok_u16 (hok (.int .u16 nn) (by simp))
  have hw0 : IntKind.i64.wrap nn = nn := by rw [wrap_i64] <;> omega
  -- region 0
  refine AWp.rseq E_ok [0, 1, 2, 4, 5, 7, 8, 9, 11, 13, 21, 31, 32, 33, 34, 60, 66, 70, 71, 72, 73, 113, 115, 116, 117, 118, 139] fun K hK => ?_
  simp [encSer_eq, encIsss_eq, encIss_eq, encInts_eq, encSpn_eq, encSpns_eq, serR_1, serR_2]
  try simp (disch := omega) only [wrap_i64]
  repeat refine ⟨by first | omega | assumption | (simp only [maxLen]; omega) | (intros; omega) | decide, ?_⟩
  refine hK _ ?_
  clear hK K
  refine AWp.seq ?_
  -- region 1
  refine AWp.rseq E_ok [0, 1, 2, 4, 5, 7, 8, 9, 11, 13, 21, 31, 32, 33, 34, 60, 66, 70, 71, 72, 73, 113, 115, 116, 117, 118, 139] fun K hK => ?_
  simp [encSer_eq, encIsss_eq, encIss_eq, encInts_eq, encSpn_eq, encSpns_eq, serR_1, serR_2]
  try simp (disch := omega) only [wrap_i64]
  repeat refine ⟨by first | omega | assumption | (simp only [maxLen]; omega) | (intros; omega) | decide, ?_⟩
  refine meet.of (ref37_Small s) ?_
  simp [encSer_eq, encIsss_eq, encIss_eq, encInts_eq, encSpn_eq, encSpns_eq, serR_1, serR_2]
  try simp (disch := omega) only [wrap_i64]
  repeat refine ⟨by first | omega | assumption | (simp only [maxLen]; omega) | (intros; omega) | decide, ?_⟩
  refine meet.ofG (fun hg => serial_Right s (by have := small_ok (s := s) (by simpa using hg); omega)) ?_
  simp [encSer_eq, encIsss_eq, encIss_eq, encInts_eq, encSpn_eq, encSpns_eq, serR_1, serR_2]
  try simp (disch := omega) only [wrap_i64]
  repeat refine ⟨by first | omega | assumption | (simp only [maxLen]; omega) | (intros; omega) | decide, ?_⟩
  refine hK _ ?_
  clear hK K
  refine AWp.cond rfl (fun h21 => ?_) (fun h21 => ?_)
  · try simp at h21
    -- region 2
    refine AWp.rseq E_ok [0, 1, 2, 4, 5, 7, 8, 9, 11, 13, 21, 31, 32, 33, 34, 60, 66, 70, 71, 72, 73, 113, 115, 116, 117, 118, 139] fun K hK => ?_
    simp [encSer_eq, encIsss_eq, encIss_eq, encInts_eq, encSpn_eq, encSpns_eq, serR_1, serR_2]
    try simp (disch := omega) only [wrap_i64]
    repeat refine ⟨by first | omega | assumption | (simp only [maxLen]; omega) | (intros; omega) | decide, ?_⟩
    refine meet.of (law37_alive) ?_
    simp [encSer_eq, encIsss_eq, encIss_eq, encInts_eq, encSpn_eq, encSpns_eq, serR_1, serR_2]
    try simp (disch := omega) only [wrap_i64]
    repeat refine ⟨by first | omega | assumption | (simp only [maxLen]; omega) | (intros; omega) | decide, ?_⟩
    refine hK _ ?_
    clear hK K
    refine AWp.ret ?_
    repeat first | refine thenN ?_ | refine thenX ?_ | refine thenR ?_ | refine blockN ?_ | refine blockR ?_ | refine blockX ?_ | refine blockM rfl ?_
    simp [RetOk, RV]
  · try simp at h21
    have h : SerOk s := serR_ok (by simpa using h21.2)
    have hl : s.iss.length ≤ 1000 := by have := h.len; omega
    have hper := h.pat.2.2.1
    have hfst := h.pat.2.2.2
    have hper0 : ¬ s.pat.per = 0 := by omega
    obtain ⟨m, hmm⟩ : ∃ m, nn % s.pat.per = m := ⟨_, rfl⟩
    have hmr : 0 ≤ m ∧ m < s.pat.per := by rw [← hmm]; exact ⟨Int.emod_nonneg _ hper0, Int.emod_lt_of_pos _ (by omega)⟩
    have t1 : nn.tmod s.pat.per = m := by rw [Int.tmod_eq_emod_of_nonneg (by omega)]; exact hmm
    have hwm : IntKind.i64.wrap (1 + m) = 1 + m := by rw [wrap_i64] <;> omega
    have hhl : (heldR s).length ≤ 1000 := by have h1 := hld_len s.iss s.pat.per s.iss 0 []; unfold heldR; rw [List.length_nil] at h1; omega
    have hgl : (gapsR s).length ≤ 1000 := by have := gap_len s.iss 0; unfold gapsR; omega
    refine AWp.skip ?_
    repeat first | refine thenN ?_ | refine thenX ?_ | refine thenR ?_ | refine blockN ?_ | refine blockR ?_ | refine blockX ?_ | refine blockM rfl ?_
    -- region 3
    refine AWp.rseq E_ok [0, 1, 2, 4, 5, 7, 8, 9, 11, 13, 21, 31, 32, 33, 34, 60, 66, 70, 71, 72, 73, 113, 115, 116, 117, 118, 139] fun K hK => ?_
    simp [encSer_eq, encIsss_eq, encIss_eq, encInts_eq, encSpn_eq, encSpns_eq, serR_1, serR_2, hw0, t1, hper0, hwm]
    try simp (disch := omega) only [wrap_i64]
    repeat refine ⟨by first | omega | assumption | (simp only [maxLen]; omega) | (intros; omega) | decide, ?_⟩
    refine hK _ ?_
    clear hK K
    refine AWp.seq ?_
    -- region 4
    refine AWp.rseq E_ok [0, 1, 2, 4, 5, 7, 8, 9, 11, 13, 21, 31, 32, 33, 34, 60, 66, 70, 71, 72, 73, 113, 115, 116, 117, 118, 139] fun K hK => ?_
    simp [encSer_eq, encIsss_eq, encIss_eq, encInts_eq, encSpn_eq, encSpns_eq, serR_1, serR_2, hw0, t1, hper0, hwm]
    try simp (disch := omega) only [wrap_i64]
    repeat refine ⟨by first | omega | assumption | (simp only [maxLen]; omega) | (intros; omega) | decide, ?_⟩
    refine meet.of (serial_Held s hl (fun x hx => by have := h.rng hx; omega)) ?_
    simp [encSer_eq, encIsss_eq, encIss_eq, encInts_eq, encSpn_eq, encSpns_eq, serR_1, serR_2, hw0, t1, hper0, hwm]
    try simp (disch := omega) only [wrap_i64]
    repeat refine ⟨by first | omega | assumption | (simp only [maxLen]; omega) | (intros; omega) | decide, ?_⟩
    refine hK _ ?_
    clear hK K
    refine AWp.block ?_
    refine AWp.range (l := (heldR s)) (F := trU) (tot := trU () (heldR s)) (fun k y => match y with | () => True) (fun k y => match y with | () => [(0, T.val (D.agg [D.int IntKind.i64 s.rcd, D.int IntKind.i64 s.pat.start, D.int IntKind.i64 s.pat.every, D.int IntKind.i64 s.pat.per, D.int IntKind.i64 s.pat.first, (D.int IntKind.i64 0).slice (List.map (D.int IntKind.i64) s.pat.skip), (D.int IntKind.i64 0).slice (List.map (D.int IntKind.i64) s.pat.dbl), D.int IntKind.i64 s.next, (D.agg [D.int IntKind.i64 zIss.vol, D.int IntKind.i64 zIss.num, D.int IntKind.i64 zIss.last, D.int IntKind.i64 zIss.day, D.int IntKind.i64 zIss.st, D.int IntKind.i64 zIss.item]).slice (List.map encIss s.iss)])), (1, T.val (D.int IntKind.u16 nn)), (2, T.box [C.d (D.int IntKind.i64 s.rcd), C.d (D.int IntKind.i64 s.pat.start), C.d (D.int IntKind.i64 s.pat.every), C.d (D.int IntKind.i64 s.pat.per), C.d (D.int IntKind.i64 s.pat.first), C.d ((D.int IntKind.i64 0).slice (List.map (D.int IntKind.i64) s.pat.skip)), C.d ((D.int IntKind.i64 0).slice (List.map (D.int IntKind.i64) s.pat.dbl)), C.d (D.int IntKind.i64 s.next), C.d ((D.agg [D.int IntKind.i64 zIss.vol, D.int IntKind.i64 zIss.num, D.int IntKind.i64 zIss.last, D.int IntKind.i64 zIss.day, D.int IntKind.i64 zIss.st, D.int IntKind.i64 zIss.item]).slice (List.map encIss s.iss))]), (5, T.val (D.int IntKind.i64 (1 + m))), (31, T.val ((D.agg [D.int IntKind.i64 zSpn.fr, D.int IntKind.i64 zSpn.til]).slice (List.map encSpn (heldR s)))), (32, T.val (D.int IntKind.i64 ↑(heldR s).length)), (33, T.val (.int .i64 k))]) () ?_ rfl ?_ ?_
    · simp [Weak, TW, encSer_eq, encIsss_eq, encIss_eq, encInts_eq, encSpn_eq, encSpns_eq, serR_1, serR_2]
    · first | exact trivial | (simp; omega) | simp
    rintro k ⟨⟩ hk hs hi
    try simp only at hi
    -- region 5
    refine AWp.rseq E_ok [0, 1, 2, 4, 5, 7, 8, 9, 11, 13, 21, 31, 32, 33, 34, 60, 66, 70, 71, 72, 73, 113, 115, 116, 117, 118, 139] fun K hK => ?_
    simp [encSer_eq, encIsss_eq, encIss_eq, encInts_eq, encSpn_eq, encSpns_eq, serR_1, serR_2, hw0, t1, hper0, hwm]
    try simp (disch := omega) only [wrap_i64]
    repeat refine ⟨by first | omega | assumption | (simp only [maxLen]; omega) | (intros; omega) | decide, ?_⟩
    refine hK _ ?_
    clear hK K
    refine AWp.seq ?_
    refine AWp.cond rfl (fun h34 => ?_) (fun h34 => ?_)
    · try simp at h34
      obtain ⟨x, hx, hxx, hd⟩ := at_indexG (l := (heldR s)) h34
      rw [hd] at hs
      obtain ⟨hsp1, hsp2⟩ := held_spn h (List.mem_of_getElem? hx)
      obtain ⟨a1, ha1⟩ : ∃ z, x.fr = z := ⟨_, rfl⟩
      obtain ⟨a2, ha2⟩ : ∃ z, x.til = z := ⟨_, rfl⟩
      rw [ha1, ha2] at hsp1 hsp2
      have hxw : IntKind.i64.wrap (a2 - a1) = a2 - a1 := by rw [wrap_i64] <;> omega
      refine AWp.skip ?_
      repeat first | refine thenN ?_ | refine thenX ?_ | refine thenR ?_ | refine blockN ?_ | refine blockR ?_ | refine blockX ?_ | refine blockM rfl ?_
      refine AWp.seq ?_
      refine AWp.block ?_
      -- region 6
      refine AWp.rseq E_ok [0, 1, 2, 4, 5, 7, 8, 9, 11, 13, 21, 31, 32, 33, 34, 60, 66, 70, 71, 72, 73, 113, 115, 116, 117, 118, 139] fun K hK => ?_
      simp [encSer_eq, encIsss_eq, encIss_eq, encInts_eq, encSpn_eq, encSpns_eq, serR_1, serR_2, hw0, t1, hper0, hwm, h34, hxw, ha1, ha2, hx, hxx]
      try simp (disch := omega) only [wrap_i64]
      repeat refine ⟨by first | omega | assumption | (simp only [maxLen]; omega) | (intros; omega) | decide, ?_⟩
      refine hK _ ?_
      clear hK K
      refine AWp.seq ?_
      -- region 7
      refine AWp.rseq E_ok [0, 1, 2, 4, 5, 7, 8, 9, 11, 13, 21, 31, 32, 33, 34, 60, 66, 70, 71, 72, 73, 113, 115, 116, 117, 118, 139] fun K hK => ?_
      simp [encSer_eq, encIsss_eq, encIss_eq, encInts_eq, encSpn_eq, encSpns_eq, serR_1, serR_2, hw0, t1, hper0, hwm, h34, hxw, ha1, ha2, hx, hxx]
      try simp (disch := omega) only [wrap_i64]
      repeat refine ⟨by first | omega | assumption | (simp only [maxLen]; omega) | (intros; omega) | decide, ?_⟩
      refine hK _ ?_
      clear hK K
      refine AWp.cond rfl (fun h60 => ?_) (fun h60 => ?_)
      · try simp at h60
        exfalso; omega
      · try simp at h60
        refine AWp.skip ?_
        repeat first | refine thenN ?_ | refine thenX ?_ | refine thenR ?_ | refine blockN ?_ | refine blockR ?_ | refine blockX ?_ | refine blockM rfl ?_
        -- region 9
        refine AWp.rseq E_ok [0, 1, 2, 4, 5, 7, 8, 9, 11, 13, 21, 31, 32, 33, 34, 60, 66, 70, 71, 72, 73, 113, 115, 116, 117, 118, 139] fun K hK => ?_
        simp [encSer_eq, encIsss_eq, encIss_eq, encInts_eq, encSpn_eq, encSpns_eq, serR_1, serR_2, hw0, t1, hper0, hwm, h34, hxw, ha1, ha2, hx, hxx]
        try simp (disch := omega) only [wrap_i64]
        repeat refine ⟨by first | omega | assumption | (simp only [maxLen]; omega) | (intros; omega) | decide, ?_⟩
        refine hK _ ?_
        clear hK K
        refine AWp.block ?_
        refine AWp.loop (ι := { v : Int // a1 ≤ v ∧ v ≤ a2 + 1 }) (fun x => match x with | ⟨v, hv⟩ => [(0, T.val (D.agg [D.int IntKind.i64 s.rcd, D.int IntKind.i64 s.pat.start, D.int IntKind.i64 s.pat.every, D.int IntKind.i64 s.pat.per, D.int IntKind.i64 s.pat.first, (D.int IntKind.i64 0).slice (List.map (D.int IntKind.i64) s.pat.skip), (D.int IntKind.i64 0).slice (List.map (D.int IntKind.i64) s.pat.dbl), D.int IntKind.i64 s.next, (D.agg [D.int IntKind.i64 zIss.vol, D.int IntKind.i64 zIss.num, D.int IntKind.i64 zIss.last, D.int IntKind.i64 zIss.day, D.int IntKind.i64 zIss.st, D.int IntKind.i64 zIss.item]).slice (List.map encIss s.iss)])), (1, T.val (D.int IntKind.u16 nn)), (2, T.box [C.d (D.int IntKind.i64 s.rcd), C.d (D.int IntKind.i64 s.pat.start), C.d (D.int IntKind.i64 s.pat.every), C.d (D.int IntKind.i64 s.pat.per), C.d (D.int IntKind.i64 s.pat.first), C.d ((D.int IntKind.i64 0).slice (List.map (D.int IntKind.i64) s.pat.skip)), C.d ((D.int IntKind.i64 0).slice (List.map (D.int IntKind.i64) s.pat.dbl)), C.d (D.int IntKind.i64 s.next), C.d ((D.agg [D.int IntKind.i64 zIss.vol, D.int IntKind.i64 zIss.num, D.int IntKind.i64 zIss.last, D.int IntKind.i64 zIss.day, D.int IntKind.i64 zIss.st, D.int IntKind.i64 zIss.item]).slice (List.map encIss s.iss))]), (5, T.val (D.int IntKind.i64 (1 + m))), (7, T.box [C.d (D.int IntKind.i64 a1), C.d (D.int IntKind.i64 a2)]), (8, T.val (.int .i64 v)), (31, T.val ((D.agg [D.int IntKind.i64 zSpn.fr, D.int IntKind.i64 zSpn.til]).slice (List.map encSpn (heldR s)))), (32, T.val (D.int IntKind.i64 ↑(heldR s).length)), (33, T.val (D.int IntKind.i64 ↑k))]) (fun x => match x with | ⟨v, hv⟩ => (a2 + 1 - v).toNat) ⟨a1, by omega, by omega⟩ ?_ ?_
        · simp [Weak, TW, encSer_eq, encIsss_eq, encIss_eq, encInts_eq, encSpn_eq, encSpns_eq, serR_1, serR_2]
        rintro ⟨v, hv⟩
        simp only
        try simp only at hv
        refine AWp.seq ?_
        -- region 10
        refine AWp.rseq E_ok [0, 1, 2, 4, 5, 7, 8, 9, 11, 13, 21, 31, 32, 33, 34, 60, 66, 70, 71, 72, 73, 113, 115, 116, 117, 118, 139] fun K hK => ?_
        simp [encSer_eq, encIsss_eq, encIss_eq, encInts_eq, encSpn_eq, encSpns_eq, serR_1, serR_2, hw0, t1, hper0, hwm, h34, hxw, ha1, ha2, hx, hxx]
        try simp (disch := omega) only [wrap_i64]
        repeat refine ⟨by first | omega | assumption | (simp only [maxLen]; omega) | (intros; omega) | decide, ?_⟩
        refine hK _ ?_
        clear hK K
        refine AWp.cond rfl (fun h66 => ?_) (fun h66 => ?_)
        · try simp at h66
          have hvb := hsp2 v hv.1 h66
          have hvw : IntKind.i64.wrap (v + 1) = v + 1 := by rw [wrap_i64] <;> omega
          refine AWp.skip ?_
          repeat first | refine thenN ?_ | refine thenX ?_ | refine thenR ?_ | refine blockN ?_ | refine blockR ?_ | refine blockX ?_ | refine blockM rfl ?_
          refine AWp.seq ?_
          refine AWp.block ?_
          -- region 12
          refine AWp.rseq E_ok [0, 1, 2, 4, 5, 7, 8, 9, 11, 13, 21, 31, 32, 33, 34, 60, 66, 70, 71, 72, 73, 113, 115, 116, 117, 118, 139] fun K hK => ?_
          simp [encSer_eq, encIsss_eq, encIss_eq, encInts_eq, encSpn_eq, encSpns_eq, serR_1, serR_2, hw0, t1, hper0, hwm, h34, hxw, ha1, ha2, hx, hxx]
          try simp (disch := omega) only [wrap_i64]
          repeat refine ⟨by first | omega | assumption | (simp only [maxLen]; omega) | (intros; omega) | decide, ?_⟩
          refine hK _ ?_
          clear hK K
          refine AWp.seq ?_
          -- region 13
          refine AWp.rseq E_ok [0, 1, 2, 4, 5, 7, 8, 9, 11, 13, 21, 31, 32, 33, 34, 60, 66, 70, 71, 72, 73, 113, 115, 116, 117, 118, 139] fun K hK => ?_
          simp [encSer_eq, encIsss_eq, encIss_eq, encInts_eq, encSpn_eq, encSpns_eq, serR_1, serR_2, hw0, t1, hper0, hwm, h34, hxw, ha1, ha2, hx, hxx]
          try simp (disch := omega) only [wrap_i64]
          repeat refine ⟨by first | omega | assumption | (simp only [maxLen]; omega) | (intros; omega) | decide, ?_⟩
          refine hK _ ?_
          clear hK K
          refine AWp.block ?_
          refine AWp.range (l := s.iss) (F := fndB v (1 + m)) (tot := fndB v (1 + m) false s.iss) (fun k2 y => match y with | b => True) (fun k2 y => match y with | b => [(0, T.val (D.agg [D.int IntKind.i64 s.rcd, D.int IntKind.i64 s.pat.start, D.int IntKind.i64 s.pat.every, D.int IntKind.i64 s.pat.per, D.int IntKind.i64 s.pat.first, (D.int IntKind.i64 0).slice (List.map (D.int IntKind.i64) s.pat.skip), (D.int IntKind.i64 0).slice (List.map (D.int IntKind.i64) s.pat.dbl), D.int IntKind.i64 s.next, (D.agg [D.int IntKind.i64 zIss.vol, D.int IntKind.i64 zIss.num, D.int IntKind.i64 zIss.last, D.int IntKind.i64 zIss.day, D.int IntKind.i64 zIss.st, D.int IntKind.i64 zIss.item]).slice (List.map encIss s.iss)])), (1, T.val (D.int IntKind.u16 nn)), (2, T.box [C.d (D.int IntKind.i64 s.rcd), C.d (D.int IntKind.i64 s.pat.start), C.d (D.int IntKind.i64 s.pat.every), C.d (D.int IntKind.i64 s.pat.per), C.d (D.int IntKind.i64 s.pat.first), C.d ((D.int IntKind.i64 0).slice (List.map (D.int IntKind.i64) s.pat.skip)), C.d ((D.int IntKind.i64 0).slice (List.map (D.int IntKind.i64) s.pat.dbl)), C.d (D.int IntKind.i64 s.next), C.d ((D.agg [D.int IntKind.i64 zIss.vol, D.int IntKind.i64 zIss.num, D.int IntKind.i64 zIss.last, D.int IntKind.i64 zIss.day, D.int IntKind.i64 zIss.st, D.int IntKind.i64 zIss.item]).slice (List.map encIss s.iss))]), (5, T.val (D.int IntKind.i64 (1 + m))), (7, T.box [C.d (D.int IntKind.i64 a1), C.d (D.int IntKind.i64 a2)]), (8, T.val (D.int IntKind.i64 v)), (9, T.val (.bool b)), (31, T.val ((D.agg [D.int IntKind.i64 zSpn.fr, D.int IntKind.i64 zSpn.til]).slice (List.map encSpn (heldR s)))), (32, T.val (D.int IntKind.i64 ↑(heldR s).length)), (33, T.val (D.int IntKind.i64 ↑k)), (70, T.val ((D.agg [D.int IntKind.i64 zIss.vol, D.int IntKind.i64 zIss.num, D.int IntKind.i64 zIss.last, D.int IntKind.i64 zIss.day, D.int IntKind.i64 zIss.st, D.int IntKind.i64 zIss.item]).slice (List.map encIss s.iss))), (71, T.val (D.int IntKind.i64 ↑s.iss.length)), (72, T.val (.int .i64 k2))]) (false) ?_ rfl ?_ ?_
          · simp [Weak, TW, encSer_eq, encIsss_eq, encIss_eq, encInts_eq, encSpn_eq, encSpns_eq, serR_1, serR_2]
          · first | exact trivial | (simp; omega) | simp
          rintro k2 b hk2 hs2 hi2
          try simp only at hi2
          -- region 14
          refine AWp.rseq E_ok [0, 1, 2, 4, 5, 7, 8, 9, 11, 13, 21, 31, 32, 33, 34, 60, 66, 70, 71, 72, 73, 113, 115, 116, 117, 118, 139] fun K hK => ?_
          simp [encSer_eq, encIsss_eq, encIss_eq, encInts_eq, encSpn_eq, encSpns_eq, serR_1, serR_2, hw0, t1, hper0, hwm, h34, hxw, ha1, ha2, hx, hxx]
          try simp (disch := omega) only [wrap_i64]
          repeat refine ⟨by first | omega | assumption | (simp only [maxLen]; omega) | (intros; omega) | decide, ?_⟩
          refine hK _ ?_
          clear hK K
          refine AWp.seq ?_
          refine AWp.cond rfl (fun h73 => ?_) (fun h73 => ?_)
          · try simp at h73
            obtain ⟨x2, hx2, hxx2, hd2⟩ := at_indexG (l := s.iss) h73
            rw [hd2] at hs2
            refine AWp.skip ?_
            repeat first | refine thenN ?_ | refine thenX ?_ | refine thenR ?_ | refine blockN ?_ | refine blockR ?_ | refine blockX ?_ | refine blockM rfl ?_
            refine AWp.seq ?_
            refine AWp.block ?_
            -- region 15
            refine AWp.rseq E_ok [0, 1, 2, 4, 5, 7, 8, 9, 11, 13, 21, 31, 32, 33, 34, 60, 66, 70, 71, 72, 73, 113, 115, 116, 117, 118, 139] fun K hK => ?_
            simp [encSer_eq, encIsss_eq, encIss_eq, encInts_eq, encSpn_eq, encSpns_eq, serR_1, serR_2, hw0, t1, hper0, hwm, h34, hxw, ha1, ha2, hx, hxx, h73, hx2, hxx2]
            try simp (disch := omega) only [wrap_i64]
            repeat refine ⟨by first | omega | assumption | (simp only [maxLen]; omega) | (intros; omega) | decide, ?_⟩
            refine hK _ ?_
            clear hK K
            -- region 16
            refine AWp.rend E_ok [0, 1, 2, 4, 5, 7, 8, 9, 11, 13, 21, 31, 32, 33, 34, 60, 66, 70, 71, 72, 73, 113, 115, 116, 117, 118, 139] fun K hK => ?_
            simp [encSer_eq, encIsss_eq, encIss_eq, encInts_eq, encSpn_eq, encSpns_eq, serR_1, serR_2, hw0, t1, hper0, hwm, h34, hxw, ha1, ha2, hx, hxx, h73, hx2, hxx2]
            try simp (disch := omega) only [wrap_i64]
            repeat refine ⟨by first | omega | assumption | (simp only [maxLen]; omega) | (intros; omega) | decide, ?_⟩
            refine hK _ ?_
            clear hK K
            repeat first | refine thenN ?_ | refine thenX ?_ | refine thenR ?_ | refine blockN ?_ | refine blockR ?_ | refine blockX ?_ | refine blockM rfl ?_
            -- region 17
            refine AWp.rend E_ok [0, 1, 2, 4, 5, 7, 8, 9, 11, 13, 21, 31, 32, 33, 34, 60, 66, 70, 71, 72, 73, 113, 115, 116, 117, 118, 139] fun K hK => ?_
            simp [encSer_eq, encIsss_eq, encIss_eq, encInts_eq, encSpn_eq, encSpns_eq, serR_1, serR_2, hw0, t1, hper0, hwm, h34, hxw, ha1, ha2, hx, hxx, h73, hx2, hxx2]
            try simp (disch := omega) only [wrap_i64]
            repeat refine ⟨by first | omega | assumption | (simp only [maxLen]; omega) | (intros; omega) | decide, ?_⟩
            refine hK _ ?_
            clear hK K
            repeat first | refine thenN ?_ | refine thenX ?_ | refine thenR ?_ | refine blockN ?_ | refine blockR ?_ | refine blockX ?_ | refine blockM rfl ?_
            have hw2 : IntKind.i64.wrap ((k2 : Int) + 1) = (k2 : Int) + 1 := by rw [wrap_i64] <;> omega
            rw [fndB] at hs2
            refine ⟨((b || decide (FndC v (1 + m) x2))), h73, hs2, ?_, ?_⟩
            · first | exact trivial | (simp; omega) | simp
            · simp [Weak, TW, hw2, encSer_eq, encIsss_eq, encIss_eq, encInts_eq, encSpn_eq, encSpns_eq, serR_1, serR_2] <;> (unfold FndC; cases b <;> (try rw [Bool.eq_iff_iff]) <;> simp <;> exact decide_eq_true_iff.symm)
          · try simp at h73
            obtain rfl : k2 = s.iss.length := by omega
            simp only [List.drop_length, fndB] at hs2
            refine AWp.exit ?_
            repeat first | refine thenN ?_ | refine thenX ?_ | refine thenR ?_ | refine blockN ?_ | refine blockR ?_ | refine blockX ?_ | refine blockM rfl ?_
            refine AWp.seq ?_
            -- region 18
            refine AWp.rseq E_ok [0, 1, 2, 4, 5, 7, 8, 9, 11, 13, 21, 31, 32, 33, 34, 60, 66, 70, 71, 72, 73, 113, 115, 116, 117, 118, 139] fun K hK => ?_
            simp [encSer_eq, encIsss_eq, encIss_eq, encInts_eq, encSpn_eq, encSpns_eq, serR_1, serR_2, hw0, t1, hper0, hwm, h34, hxw, ha1, ha2, hx, hxx, h73]
            try simp (disch := omega) only [wrap_i64]
            repeat refine ⟨by first | omega | assumption | (simp only [maxLen]; omega) | (intros; omega) | decide, ?_⟩
            refine hK _ ?_
            clear hK K
            refine AWp.cond rfl (fun h113 => ?_) (fun h113 => ?_)
            · try simp at h113
              exfalso; have hf := held_fnd h hvb (n := 1 + m) (by omega) (by omega); rw [hf] at hs2; simp_all
            · try simp at h113
              refine AWp.skip ?_
              repeat first | refine thenN ?_ | refine thenX ?_ | refine thenR ?_ | refine blockN ?_ | refine blockR ?_ | refine blockX ?_ | refine blockM rfl ?_
              -- region 20
              refine AWp.rseq E_ok [0, 1, 2, 4, 5, 7, 8, 9, 11, 13, 21, 31, 32, 33, 34, 60, 66, 70, 71, 72, 73, 113, 115, 116, 117, 118, 139] fun K hK => ?_
              simp [encSer_eq, encIsss_eq, encIss_eq, encInts_eq, encSpn_eq, encSpns_eq, serR_1, serR_2, hw0, t1, hper0, hwm, h34, hxw, ha1, ha2, hx, hxx, h73]
              try simp (disch := omega) only [wrap_i64]
              repeat refine ⟨by first | omega | assumption | (simp only [maxLen]; omega) | (intros; omega) | decide, ?_⟩
              refine meet.of (serial_Gaps s hl) ?_
              simp [encSer_eq, encIsss_eq, encIss_eq, encInts_eq, encSpn_eq, encSpns_eq, serR_1, serR_2, hw0, t1, hper0, hwm, h34, hxw, ha1, ha2, hx, hxx, h73]
              try simp (disch := omega) only [wrap_i64]
              repeat refine ⟨by first | omega | assumption | (simp only [maxLen]; omega) | (intros; omega) | decide, ?_⟩
              refine hK _ ?_
              clear hK K
              refine AWp.block ?_
              refine AWp.range (l := (gapsR s)) (F := trU) (tot := trU () (gapsR s)) (fun k3 y => match y with | () => True) (fun k3 y => match y with | () => [(0, T.val (D.agg [D.int IntKind.i64 s.rcd, D.int IntKind.i64 s.pat.start, D.int IntKind.i64 s.pat.every, D.int IntKind.i64 s.pat.per, D.int IntKind.i64 s.pat.first, (D.int IntKind.i64 0).slice (List.map (D.int IntKind.i64) s.pat.skip), (D.int IntKind.i64 0).slice (List.map (D.int IntKind.i64) s.pat.dbl), D.int IntKind.i64 s.next, (D.agg [D.int IntKind.i64 zIss.vol, D.int IntKind.i64 zIss.num, D.int IntKind.i64 zIss.last, D.int IntKind.i64 zIss.day, D.int IntKind.i64 zIss.st, D.int IntKind.i64 zIss.item]).slice (List.map encIss s.iss)])), (1, T.val (D.int IntKind.u16 nn)), (2, T.box [C.d (D.int IntKind.i64 s.rcd), C.d (D.int IntKind.i64 s.pat.start), C.d (D.int IntKind.i64 s.pat.every), C.d (D.int IntKind.i64 s.pat.per), C.d (D.int IntKind.i64 s.pat.first), C.d ((D.int IntKind.i64 0).slice (List.map (D.int IntKind.i64) s.pat.skip)), C.d ((D.int IntKind.i64 0).slice (List.map (D.int IntKind.i64) s.pat.dbl)), C.d (D.int IntKind.i64 s.next), C.d ((D.agg [D.int IntKind.i64 zIss.vol, D.int IntKind.i64 zIss.num, D.int IntKind.i64 zIss.last, D.int IntKind.i64 zIss.day, D.int IntKind.i64 zIss.st, D.int IntKind.i64 zIss.item]).slice (List.map encIss s.iss))]), (5, T.val (D.int IntKind.i64 (1 + m))), (7, T.box [C.d (D.int IntKind.i64 a1), C.d (D.int IntKind.i64 a2)]), (8, T.val (D.int IntKind.i64 v)), (31, T.val ((D.agg [D.int IntKind.i64 zSpn.fr, D.int IntKind.i64 zSpn.til]).slice (List.map encSpn (heldR s)))), (32, T.val (D.int IntKind.i64 ↑(heldR s).length)), (33, T.val (D.int IntKind.i64 ↑k)), (115, T.val ((D.int IntKind.i64 0).slice (List.map (D.int IntKind.i64) (gapsR s)))), (116, T.val (D.int IntKind.i64 ↑(gapsR s).length)), (117, T.val (.int .i64 k3))]) () ?_ rfl ?_ ?_
              · simp [Weak, TW, encSer_eq, encIsss_eq, encIss_eq, encInts_eq, encSpn_eq, encSpns_eq, serR_1, serR_2]
              · first | exact trivial | (simp; omega) | simp
              rintro k3 ⟨⟩ hk3 hs3 hi3
              try simp only at hi3
              -- region 21
              refine AWp.rseq E_ok [0, 1, 2, 4, 5, 7, 8, 9, 11, 13, 21, 31, 32, 33, 34, 60, 66, 70, 71, 72, 73, 113, 115, 116, 117, 118, 139] fun K hK => ?_
              simp [encSer_eq, encIsss_eq, encIss_eq, encInts_eq, encSpn_eq, encSpns_eq, serR_1, serR_2, hw0, t1, hper0, hwm, h34, hxw, ha1, ha2, hx, hxx, h73]
              try simp (disch := omega) only [wrap_i64]
              repeat refine ⟨by first | omega | assumption | (simp only [maxLen]; omega) | (intros; omega) | decide, ?_⟩
              refine hK _ ?_
              clear hK K
              refine AWp.seq ?_
              refine AWp.cond rfl (fun h118 => ?_) (fun h118 => ?_)
              · try simp at h118
                obtain ⟨x3, hx3, hxx3, hd3⟩ := at_indexG (l := (gapsR s)) h118
                rw [hd3] at hs3
                obtain ⟨j, y, hj, hy, hvy⟩ := gap_held hvb (List.mem_of_getElem? hx3)
                have hjl : j < s.iss.length := (List.getElem?_eq_some_iff.1 hy).1
                have hjy : s.iss[j]'hjl = y := (List.getElem?_eq_some_iff.1 hy).2
                refine AWp.skip ?_
                repeat first | refine thenN ?_ | refine thenX ?_ | refine thenR ?_ | refine blockN ?_ | refine blockR ?_ | refine blockX ?_ | refine blockM rfl ?_
                refine AWp.seq ?_
                refine AWp.block ?_
                -- region 22
                refine AWp.rseq E_ok [0, 1, 2, 4, 5, 7, 8, 9, 11, 13, 21, 31, 32, 33, 34, 60, 66, 70, 71, 72, 73, 113, 115, 116, 117, 118, 139] fun K hK => ?_
                simp [encSer_eq, encIsss_eq, encIss_eq, encInts_eq, encSpn_eq, encSpns_eq, serR_1, serR_2, hw0, t1, hper0, hwm, h34, hxw, ha1, ha2, hx, hxx, h73, h118, hj, hjl, hjy, hy, hx3, hxx3]
                try simp (disch := omega) only [wrap_i64]
                repeat refine ⟨by first | omega | assumption | (simp only [maxLen]; omega) | (intros; omega) | decide, ?_⟩
                refine hK _ ?_
                clear hK K
                -- region 23
                refine AWp.rseq E_ok [0, 1, 2, 4, 5, 7, 8, 9, 11, 13, 21, 31, 32, 33, 34, 60, 66, 70, 71, 72, 73, 113, 115, 116, 117, 118, 139] fun K hK => ?_
                simp [encSer_eq, encIsss_eq, encIss_eq, encInts_eq, encSpn_eq, encSpns_eq, serR_1, serR_2, hw0, t1, hper0, hwm, h34, hxw, ha1, ha2, hx, hxx, h73, h118, hj, hjl, hjy, hy, hx3, hxx3]
                try simp (disch := omega) only [wrap_i64]
                repeat refine ⟨by first | omega | assumption | (simp only [maxLen]; omega) | (intros; omega) | decide, ?_⟩
                refine hK _ ?_
                clear hK K
                refine AWp.cond rfl (fun h139 => ?_) (fun h139 => ?_)
                · try simp at h139
                  exfalso; omega
                · try simp at h139
                  refine AWp.skip ?_
                  repeat first | refine thenN ?_ | refine thenX ?_ | refine thenR ?_ | refine blockN ?_ | refine blockR ?_ | refine blockX ?_ | refine blockM rfl ?_
                  -- region 25
                  refine AWp.rend E_ok [0, 1, 2, 4, 5, 7, 8, 9, 11, 13, 21, 31, 32, 33, 34, 60, 66, 70, 71, 72, 73, 113, 115, 116, 117, 118, 139] fun K hK => ?_
                  simp [encSer_eq, encIsss_eq, encIss_eq, encInts_eq, encSpn_eq, encSpns_eq, serR_1, serR_2, hw0, t1, hper0, hwm, h34, hxw, ha1, ha2, hx, hxx, h73, h118, hj, hjl, hjy, hy, hx3, hxx3]
                  try simp (disch := omega) only [wrap_i64]
                  repeat refine ⟨by first | omega | assumption | (simp only [maxLen]; omega) | (intros; omega) | decide, ?_⟩
                  refine hK _ ?_
                  clear hK K
                  repeat first | refine thenN ?_ | refine thenX ?_ | refine thenR ?_ | refine blockN ?_ | refine blockR ?_ | refine blockX ?_ | refine blockM rfl ?_
                  have hw3 : IntKind.i64.wrap ((k3 : Int) + 1) = (k3 : Int) + 1 := by rw [wrap_i64] <;> omega
                  rw [trU] at hs3
                  refine ⟨_, h118, hs3, ?_, ?_⟩
                  · first | exact trivial | (simp; omega) | simp
                  · simp [Weak, TW, hw3, encSer_eq, encIsss_eq, encIss_eq, encInts_eq, encSpn_eq, encSpns_eq, serR_1, serR_2]
              · try simp at h118
                obtain rfl : k3 = (gapsR s).length := by omega
                refine AWp.exit ?_
                repeat first | refine thenN ?_ | refine thenX ?_ | refine thenR ?_ | refine blockN ?_ | refine blockR ?_ | refine blockX ?_ | refine blockM rfl ?_
                -- region 11
                refine AWp.rend E_ok [0, 1, 2, 4, 5, 7, 8, 9, 11, 13, 21, 31, 32, 33, 34, 60, 66, 70, 71, 72, 73, 113, 115, 116, 117, 118, 139] fun K hK => ?_
                simp [encSer_eq, encIsss_eq, encIss_eq, encInts_eq, encSpn_eq, encSpns_eq, serR_1, serR_2, hw0, t1, hper0, hwm, h34, hxw, ha1, ha2, hx, hxx, h73, h118]
                try simp (disch := omega) only [wrap_i64]
                repeat refine ⟨by first | omega | assumption | (simp only [maxLen]; omega) | (intros; omega) | decide, ?_⟩
                refine hK _ ?_
                clear hK K
                repeat first | refine thenN ?_ | refine thenX ?_ | refine thenR ?_ | refine blockN ?_ | refine blockR ?_ | refine blockX ?_ | refine blockM rfl ?_
                refine ⟨⟨v + 1, by omega, by omega⟩, ?_, by simp only; omega⟩
                simp [Weak, TW, hvw]
        · try simp at h66
          refine AWp.exit ?_
          repeat first | refine thenN ?_ | refine thenX ?_ | refine thenR ?_ | refine blockN ?_ | refine blockR ?_ | refine blockX ?_ | refine blockM rfl ?_
          -- region 26
          refine AWp.rend E_ok [0, 1, 2, 4, 5, 7, 8, 9, 11, 13, 21, 31, 32, 33, 34, 60, 66, 70, 71, 72, 73, 113, 115, 116, 117, 118, 139] fun K hK => ?_
          simp [encSer_eq, encIsss_eq, encIss_eq, encInts_eq, encSpn_eq, encSpns_eq, serR_1, serR_2, hw0, t1, hper0, hwm, h34, hxw, ha1, ha2, hx, hxx]
          try simp (disch := omega) only [wrap_i64]
          repeat refine ⟨by first | omega | assumption | (simp only [maxLen]; omega) | (intros; omega) | decide, ?_⟩
          refine hK _ ?_
          clear hK K
          repeat first | refine thenN ?_ | refine thenX ?_ | refine thenR ?_ | refine blockN ?_ | refine blockR ?_ | refine blockX ?_ | refine blockM rfl ?_
          have hw : IntKind.i64.wrap ((k : Int) + 1) = (k : Int) + 1 := by rw [wrap_i64] <;> omega
          rw [trU] at hs
          refine ⟨_, h34, hs, ?_, ?_⟩
          · first | exact trivial | (simp; omega) | simp
          · simp [Weak, TW, hw, encSer_eq, encIsss_eq, encIss_eq, encInts_eq, encSpn_eq, encSpns_eq, serR_1, serR_2]
    · try simp at h34
      obtain rfl : k = (heldR s).length := by omega
      refine AWp.exit ?_
      repeat first | refine thenN ?_ | refine thenX ?_ | refine thenR ?_ | refine blockN ?_ | refine blockR ?_ | refine blockX ?_ | refine blockM rfl ?_
      -- region 27
      refine AWp.rseq E_ok [0, 1, 2, 4, 5, 7, 8, 9, 11, 13, 21, 31, 32, 33, 34, 60, 66, 70, 71, 72, 73, 113, 115, 116, 117, 118, 139] fun K hK => ?_
      simp [encSer_eq, encIsss_eq, encIss_eq, encInts_eq, encSpn_eq, encSpns_eq, serR_1, serR_2, hw0, t1, hper0, hwm, h34]
      try simp (disch := omega) only [wrap_i64]
      repeat refine ⟨by first | omega | assumption | (simp only [maxLen]; omega) | (intros; omega) | decide, ?_⟩
      refine meet.of (law37_alive) ?_
      simp [encSer_eq, encIsss_eq, encIss_eq, encInts_eq, encSpn_eq, encSpns_eq, serR_1, serR_2, hw0, t1, hper0, hwm, h34]
      try simp (disch := omega) only [wrap_i64]
      repeat refine ⟨by first | omega | assumption | (simp only [maxLen]; omega) | (intros; omega) | decide, ?_⟩
      refine hK _ ?_
      clear hK K
      refine AWp.ret ?_
      repeat first | refine thenN ?_ | refine thenX ?_ | refine thenR ?_ | refine blockN ?_ | refine blockR ?_ | refine blockX ?_ | refine blockM rfl ?_
      simp [RetOk, RV]
end Go.Proofs.Ytceapemkefaicaa
