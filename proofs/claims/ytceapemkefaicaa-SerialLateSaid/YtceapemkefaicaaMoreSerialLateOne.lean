/-
  What the functions compute that the statement reaches: contracts, and the plain laws between them. Conditions stand at each theorem.
-/
import Derived.Test.YtceapemkefaicaaWalkSix
set_option linter.unusedVariables false
set_option linter.unusedSimpArgs false
/- Serials: how long things are. -/
namespace Pl
open Go Ab
set_option linter.unusedVariables false
set_option linter.unusedSimpArgs false
theorem small_ok {s : Ser} (h : smallS s = true) : s.iss.length ≤ 140 ∧ s.pat.skip.length ≤ 20 ∧ s.pat.dbl.length ≤ 20 := by
  unfold smallS at h; simp at h; omega
def LenS (s : Ser) : Prop := s.pat.skip.length ≤ 100000 ∧ s.pat.dbl.length ≤ 100000 ∧ s.iss.length ≤ 100000
theorem len_z : LenS zSer := by unfold LenS; decide
theorem len_new (r : Int) {p : Pat} (h : (0 : Nat) ≤ 140 ∧ p.skip.length ≤ 20 ∧ p.dbl.length ≤ 20) : LenS (newR r p).1 := by
  unfold newR
  split
  · exact len_z
  · split
    · exact len_z
    · unfold LenS; simp; omega
theorem len_exp {s : Ser} (d : Int) (h : s.iss.length ≤ 140 ∧ s.pat.skip.length ≤ 20 ∧ s.pat.dbl.length ≤ 20) : LenS (expR s d).1 := by
  have := list_len s.pat s.next (untilR s.pat d - s.next)
  unfold expR
  split
  · unfold LenS; simp only; omega
  · split
    · exact len_z
    · unfold LenS; simp only [List.length_append]; omega
theorem len_rec {s : Ser} (v n it : Int) (h : s.iss.length ≤ 140 ∧ s.pat.skip.length ≤ 20 ∧ s.pat.dbl.length ≤ 20) : LenS (recR s v n it).1 := by
  unfold recR
  split
  · exact len_z
  · split
    · exact len_z
    · split
      · exact len_z
      · unfold LenS; simp only [List.length_set]; omega
theorem len_miss {s : Ser} (v n : Int) (h : s.iss.length ≤ 140 ∧ s.pat.skip.length ≤ 20 ∧ s.pat.dbl.length ≤ 20) : LenS (missR s v n).1 := by
  unfold missR
  split
  · exact len_z
  · split
    · exact len_z
    · unfold LenS; simp only [List.length_set]; omega
theorem len_claim {s : Ser} (d w : Int) (h : s.iss.length ≤ 140 ∧ s.pat.skip.length ≤ 20 ∧ s.pat.dbl.length ≤ 20) : LenS (claimR s d w).1 := by
  unfold claimR LenS; simp only [List.length_map]; omega
theorem len_claim2 {s : Ser} (d w : Int) (h : s.iss.length ≤ 140 ∧ s.pat.skip.length ≤ 20 ∧ s.pat.dbl.length ≤ 20) : (claimR s d w).2.length ≤ 100000 := by
  have := lateIx_len d w s.iss 0
  unfold claimR; simp only; omega
theorem len_bind {s : Ser} (v it : Int) (h : s.iss.length ≤ 140 ∧ s.pat.skip.length ≤ 20 ∧ s.pat.dbl.length ≤ 20) : LenS (bindR s v it).1 := by
  unfold bindR
  split
  · exact len_z
  · split
    · exact len_z
    · split
      · exact len_z
      · unfold LenS; simp only [List.length_map]; omega
theorem SerOk.free {s : Ser} (h : SerOk s) {x : Iss} (hx : x ∈ s.iss) (hs : x.st = 1 ∨ x.st = 3) : x.item = 0 := by
  obtain ⟨i, hi⟩ := List.getElem?_of_mem hx
  have := h.iss hi; omega
theorem iss_rec {s : Ser} (v n it : Int) (h : s.iss.length ≤ 1000) : (recR s v n it).1.iss.length ≤ 1000 := by
  unfold recR
  split
  · exact Nat.zero_le _
  · split
    · exact Nat.zero_le _
    · split
      · exact Nat.zero_le _
      · simp only [List.length_set]; exact h
theorem iss_miss {s : Ser} (v n : Int) (h : s.iss.length ≤ 1000) : (missR s v n).1.iss.length ≤ 1000 := by
  unfold missR
  split
  · exact Nat.zero_le _
  · split
    · exact Nat.zero_le _
    · simp only [List.length_set]; exact h
theorem iss_bind {s : Ser} (v it : Int) (h : s.iss.length ≤ 1000) : (bindR s v it).1.iss.length ≤ 1000 := by
  unfold bindR
  split
  · exact Nat.zero_le _
  · split
    · exact Nat.zero_le _
    · split
      · exact Nat.zero_le _
      · simp only [List.length_map]; exact h
theorem iss_claim {s : Ser} (d w : Int) (h : s.iss.length ≤ 1000) : (claimR s d w).1.iss.length ≤ 1000 := by
  unfold claimR; simp only [List.length_map]; exact h
theorem claim_again (s : Ser) (d w : Int) : (claimR (claimR s d w).1 d w).2 = [] := late_none _ _
/-- a loop that finds no fault -/
def trU {α : Type} : Unit → List α → Bool
  | _, [] => true
  | _, _ :: l => trU () l
def FndC (v n : Int) (x : Iss) : Prop := (x.vol = v ∧ (x.num = n ∨ x.num ≤ n ∧ n ≤ x.last)) ∧ (x.st = 2 ∨ x.st = 4)
instance (v n : Int) (x : Iss) : Decidable (FndC v n x) := by unfold FndC; infer_instance
def fndB (v n : Int) : Bool → List Iss → Bool
  | b, [] => b
  | b, x :: l => fndB v n (b || decide (FndC v n x)) l
theorem fndB_true (v n : Int) : ∀ l : List Iss, fndB v n true l = true
  | [] => rfl
  | x :: l => by unfold fndB; rw [Bool.true_or]; exact fndB_true v n l
theorem fndB_mem {v n : Int} : ∀ {l : List Iss} (b : Bool) {y : Iss}, y ∈ l → FndC v n y → fndB v n b l = true
  | x :: l, b, y, hy, hf => by
    unfold fndB
    rcases List.mem_cons.1 hy with rfl | hy
    · rw [decide_eq_true hf, Bool.or_true]; exact fndB_true v n l
    · exact fndB_mem _ hy hf
theorem held_fnd {s : Ser} (h : SerOk s) {v n : Int} (hv : heldB s.iss s.pat.per v = true) (h1 : 1 ≤ n) (h2 : n ≤ s.pat.per) : fndB v n false s.iss = true := by
  obtain ⟨y, hy, hn, hs⟩ := held_num h hv h1 h2
  exact fndB_mem false hy ⟨hn, hs⟩
theorem gap_len : ∀ (l : List Iss) (i : Int), (gapF i l).length ≤ l.length
  | [], _ => by simp [gapF]
  | x :: l, i => by
    have := gap_len l (i + 1)
    unfold gapF
    split
    · simp only [List.length_cons]; omega
    · simp only [List.length_cons]; omega
theorem len_gaps {s : Ser} (h : SerOk s) : (gapsR s).length ≤ 100000 := by have := gap_len s.iss 0; have := h.len; unfold gapsR; omega
theorem addS_len (o : List Spn) (v : Int) : (addS o v).length ≤ o.length + 1 := by
  unfold addS
  split
  · split
    · simp <;> omega
    · simp
  · simp
theorem hld_len (l : List Iss) (per : Int) : ∀ (r : List Iss) (i : Nat) (o : List Spn), (hldF l per (i, o) r).length ≤ o.length + r.length
  | [], i, o => by simp [hldF]
  | x :: r, i, o => by
    rw [hldF_go]
    split
    · have := hld_len l per r (i + 1) o; simp only [List.length_cons]; omega
    · have := hld_len l per r (i + 1) (addS o x.vol); have := addS_len o x.vol; simp only [List.length_cons]; omega
theorem len_held {s : Ser} (h : SerOk s) : (heldR s).length ≤ 100000 := by have h1 := hld_len s.iss s.pat.per s.iss 0 []; have h2 := h.len; unfold heldR; rw [List.length_nil] at h1; omega
end Pl

set_option maxRecDepth 100000
set_option linter.unusedSimpArgs false
set_option linter.unusedVariables false
namespace Go.Proofs.Ytceapemkefaicaa
open Go Ab Pl
theorem ref37_Small (s : Ser) : ACalls E.P 14 [encSer s] (.d (.bool (smallS s))) := by
  refine ACalls.intro E_ok Try.func14 rfl rfl Try.ntmps14 Try.results14 (Nat.le_of_ble_eq_true rfl) fun hok base S0 w0 => ?_
  -- region 0
  refine AWp.rseq E_ok [0, 1, 2] fun K hK => ?_
  simp [encSer_eq, encIsss_eq, encInts_eq]
  repeat refine ⟨by first | omega | assumption | (simp only [maxLen]; omega) | (intros; omega) | decide, ?_⟩
  refine hK _ ?_
  clear hK K
  -- region 1
  refine AWp.rseq E_ok [0, 1, 2] fun K hK => ?_
  simp [encSer_eq, encIsss_eq, encInts_eq]
  repeat refine ⟨by first | omega | assumption | (simp only [maxLen]; omega) | (intros; omega) | decide, ?_⟩
  refine hK _ ?_
  clear hK K
  refine AWp.ret ?_
  repeat first | refine thenN ?_ | refine thenX ?_ | refine thenR ?_ | refine blockN ?_ | refine blockR ?_ | refine blockX ?_ | refine blockM rfl ?_
  simp [RetOk, RV, smallS]; rw [Bool.eq_iff_iff]; simp; omega
end Go.Proofs.Ytceapemkefaicaa

set_option maxRecDepth 100000
set_option linter.unusedSimpArgs false
set_option linter.unusedVariables false
namespace Go.Proofs.Ytceapemkefaicaa
open Go Ab Pl
set_option maxHeartbeats 4000000 in
theorem law37_SerialLate (s : Ser) (day wait : Int) : ACalls E.P 13 [encSer s, .int .i64 day, .int .i64 wait] (.d (.bool true)) := by
  refine ACalls.intro E_ok Try.func13 rfl rfl Try.ntmps13 Try.results13 (Nat.le_of_ble_eq_true rfl) fun hok base S0 w0 => ?_
  -- region 0
  refine AWp.rseq E_ok [0, 1, 2, 3, 6, 7, 8, 10, 12, 14, 38, 47, 48, 49, 50, 82, 85, 86, 87, 88, 101] fun K hK => ?_
  simp [encSer_eq, encIsss_eq, encIss_eq, encInts_eq, serR_1, serR_2]
  try simp (disch := omega) only [wrap_i64]
  repeat refine ⟨by first | omega | assumption | (simp only [maxLen]; omega) | (intros; omega) | decide, ?_⟩
  refine hK _ ?_
  clear hK K
  refine AWp.seq ?_
  -- region 1
  refine AWp.rseq E_ok [0, 1, 2, 3, 6, 7, 8, 10, 12, 14, 38, 47, 48, 49, 50, 82, 85, 86, 87, 88, 101] fun K hK => ?_
  simp [encSer_eq, encIsss_eq, encIss_eq, encInts_eq, serR_1, serR_2]
  try simp (disch := omega) only [wrap_i64]
  repeat refine ⟨by first | omega | assumption | (simp only [maxLen]; omega) | (intros; omega) | decide, ?_⟩
  refine meet.of (ref37_Small s) ?_
  simp [encSer_eq, encIsss_eq, encIss_eq, encInts_eq, serR_1, serR_2]
  try simp (disch := omega) only [wrap_i64]
  repeat refine ⟨by first | omega | assumption | (simp only [maxLen]; omega) | (intros; omega) | decide, ?_⟩
  refine meet.ofG (fun hg => serial_Right s (by have := small_ok (s := s) (by simpa using hg); omega)) ?_
  simp [encSer_eq, encIsss_eq, encIss_eq, encInts_eq, serR_1, serR_2]
  try simp (disch := omega) only [wrap_i64]
  repeat refine ⟨by first | omega | assumption | (simp only [maxLen]; omega) | (intros; omega) | decide, ?_⟩
  refine hK _ ?_
  clear hK K
  refine AWp.cond rfl (fun h38 => ?_) (fun h38 => ?_)
  · try simp at h38
    -- region 2
    refine AWp.rseq E_ok [0, 1, 2, 3, 6, 7, 8, 10, 12, 14, 38, 47, 48, 49, 50, 82, 85, 86, 87, 88, 101] fun K hK => ?_
    simp [encSer_eq, encIsss_eq, encIss_eq, encInts_eq, serR_1, serR_2]
    try simp (disch := omega) only [wrap_i64]
    repeat refine ⟨by first | omega | assumption | (simp only [maxLen]; omega) | (intros; omega) | decide, ?_⟩
    refine meet.of (law37_alive) ?_
    simp [encSer_eq, encIsss_eq, encIss_eq, encInts_eq, serR_1, serR_2]
    try simp (disch := omega) only [wrap_i64]
    repeat refine ⟨by first | omega | assumption | (simp only [maxLen]; omega) | (intros; omega) | decide, ?_⟩
    refine hK _ ?_
    clear hK K
    refine AWp.ret ?_
    repeat first | refine thenN ?_ | refine thenX ?_ | refine thenR ?_ | refine blockN ?_ | refine blockR ?_ | refine blockX ?_ | refine blockM rfl ?_
    simp [RetOk, RV]
  · try simp at h38
    have h : SerOk s := serR_ok (by simpa using h38.1.1.1.1.2)
    have hl : s.iss.length ≤ 1000 := by have := h.len; omega
    have hl2 := lateIx_len day wait s.iss 0
    have hcl : (claimR s day wait).2.length ≤ 1000 := by unfold claimR; simp only; omega
    have hcl2 := iss_claim day wait hl
    have hag := claim_again s day wait
    refine AWp.skip ?_
    repeat first | refine thenN ?_ | refine thenX ?_ | refine thenR ?_ | refine blockN ?_ | refine blockR ?_ | refine blockX ?_ | refine blockM rfl ?_
    -- region 3
    refine AWp.rseq E_ok [0, 1, 2, 3, 6, 7, 8, 10, 12, 14, 38, 47, 48, 49, 50, 82, 85, 86, 87, 88, 101] fun K hK => ?_
    simp [encSer_eq, encIsss_eq, encIss_eq, encInts_eq, serR_1, serR_2, hag]
    try simp (disch := omega) only [wrap_i64]
    repeat refine ⟨by first | omega | assumption | (simp only [maxLen]; omega) | (intros; omega) | decide, ?_⟩
    refine meet.of (serial_Claim s day wait hl (fun x hx => by have := h.rng hx; omega)) ?_
    simp [encSer_eq, encIsss_eq, encIss_eq, encInts_eq, serR_1, serR_2, hag]
    try simp (disch := omega) only [wrap_i64]
    repeat refine ⟨by first | omega | assumption | (simp only [maxLen]; omega) | (intros; omega) | decide, ?_⟩
    refine hK _ ?_
    clear hK K
    refine AWp.seq ?_
    -- region 4
    refine AWp.rseq E_ok [0, 1, 2, 3, 6, 7, 8, 10, 12, 14, 38, 47, 48, 49, 50, 82, 85, 86, 87, 88, 101] fun K hK => ?_
    simp [encSer_eq, encIsss_eq, encIss_eq, encInts_eq, serR_1, serR_2, hag]
    try simp (disch := omega) only [wrap_i64]
    repeat refine ⟨by first | omega | assumption | (simp only [maxLen]; omega) | (intros; omega) | decide, ?_⟩
    refine hK _ ?_
    clear hK K
    refine AWp.block ?_
    refine AWp.range (l := (claimR s day wait).2) (F := trU) (tot := trU () (claimR s day wait).2) (fun k y => match y with | () => True) (fun k y => match y with | () => [(0, T.val (D.agg [D.int IntKind.i64 s.rcd, D.int IntKind.i64 s.pat.start, D.int IntKind.i64 s.pat.every, D.int IntKind.i64 s.pat.per, D.int IntKind.i64 s.pat.first, (D.int IntKind.i64 0).slice (List.map (D.int IntKind.i64) s.pat.skip), (D.int IntKind.i64 0).slice (List.map (D.int IntKind.i64) s.pat.dbl), D.int IntKind.i64 s.next, (D.agg [D.int IntKind.i64 zIss.vol, D.int IntKind.i64 zIss.num, D.int IntKind.i64 zIss.last, D.int IntKind.i64 zIss.day, D.int IntKind.i64 zIss.st, D.int IntKind.i64 zIss.item]).slice (List.map encIss s.iss)])), (1, T.val (D.int IntKind.i64 day)), (2, T.val (D.int IntKind.i64 wait)), (3, T.box [C.d (D.int IntKind.i64 s.rcd), C.d (D.int IntKind.i64 s.pat.start), C.d (D.int IntKind.i64 s.pat.every), C.d (D.int IntKind.i64 s.pat.per), C.d (D.int IntKind.i64 s.pat.first), C.d ((D.int IntKind.i64 0).slice (List.map (D.int IntKind.i64) s.pat.skip)), C.d ((D.int IntKind.i64 0).slice (List.map (D.int IntKind.i64) s.pat.dbl)), C.d (D.int IntKind.i64 s.next), C.d ((D.agg [D.int IntKind.i64 zIss.vol, D.int IntKind.i64 zIss.num, D.int IntKind.i64 zIss.last, D.int IntKind.i64 zIss.day, D.int IntKind.i64 zIss.st, D.int IntKind.i64 zIss.item]).slice (List.map encIss s.iss))]), (7, T.box [C.d (D.int IntKind.i64 (claimR s day wait).fst.rcd), C.d (D.int IntKind.i64 (claimR s day wait).fst.pat.start), C.d (D.int IntKind.i64 (claimR s day wait).fst.pat.every), C.d (D.int IntKind.i64 (claimR s day wait).fst.pat.per), C.d (D.int IntKind.i64 (claimR s day wait).fst.pat.first), C.d ((D.int IntKind.i64 0).slice (List.map (D.int IntKind.i64) (claimR s day wait).fst.pat.skip)), C.d ((D.int IntKind.i64 0).slice (List.map (D.int IntKind.i64) (claimR s day wait).fst.pat.dbl)), C.d (D.int IntKind.i64 (claimR s day wait).fst.next), C.d ((D.agg [D.int IntKind.i64 zIss.vol, D.int IntKind.i64 zIss.num, D.int IntKind.i64 zIss.last, D.int IntKind.i64 zIss.day, D.int IntKind.i64 zIss.st, D.int IntKind.i64 zIss.item]).slice (List.map encIss (claimR s day wait).fst.iss))]), (47, T.val ((D.int IntKind.i64 0).slice (List.map (D.int IntKind.i64) (claimR s day wait).snd))), (48, T.val (D.int IntKind.i64 ↑(claimR s day wait).snd.length)), (49, T.val (.int .i64 k))]) () ?_ rfl ?_ ?_
    · simp [Weak, TW, encSer_eq, encIsss_eq, encIss_eq, encInts_eq, serR_1, serR_2]
    · first | exact trivial | (simp; omega) | simp
    rintro k ⟨⟩ hk hs hi
    try simp only at hi
    -- region 5
    refine AWp.rseq E_ok [0, 1, 2, 3, 6, 7, 8, 10, 12, 14, 38, 47, 48, 49, 50, 82, 85, 86, 87, 88, 101] fun K hK => ?_
    simp [encSer_eq, encIsss_eq, encIss_eq, encInts_eq, serR_1, serR_2, hag]
    try simp (disch := omega) only [wrap_i64]
    repeat refine ⟨by first | omega | assumption | (simp only [maxLen]; omega) | (intros; omega) | decide, ?_⟩
    refine hK _ ?_
    clear hK K
    refine AWp.seq ?_
    refine AWp.cond rfl (fun h50 => ?_) (fun h50 => ?_)
    · try simp at h50
      obtain ⟨x, hx, hxx, hd⟩ := at_indexG (l := (claimR s day wait).2) h50
      rw [hd] at hs
      obtain ⟨j, y, hj, hy, hlt⟩ := late_ix (show x ∈ lateIx day wait 0 s.iss from List.mem_of_getElem? hx)
      have hj1 : x = (j : Int) := by omega
      have hjl : j < s.iss.length := (List.getElem?_eq_some_iff.1 hy).1
      have hjy : s.iss[j]'hjl = y := (List.getElem?_eq_some_iff.1 hy).2
      have hyd := h.rng (List.mem_of_getElem? hy)
      have hyw : IntKind.i64.wrap (y.day + wait) = y.day + wait := by rw [wrap_i64] <;> omega
      unfold Late at hlt
      refine AWp.skip ?_
      repeat first | refine thenN ?_ | refine thenX ?_ | refine thenR ?_ | refine blockN ?_ | refine blockR ?_ | refine blockX ?_ | refine blockM rfl ?_
      refine AWp.seq ?_
      refine AWp.block ?_
      -- region 6
      refine AWp.rseq E_ok [0, 1, 2, 3, 6, 7, 8, 10, 12, 14, 38, 47, 48, 49, 50, 82, 85, 86, 87, 88, 101] fun K hK => ?_
      simp [encSer_eq, encIsss_eq, encIss_eq, encInts_eq, serR_1, serR_2, hag, h50, hj1, hjl, hjy, hy, hyw, hx, hxx]
      try simp (disch := omega) only [wrap_i64]
      repeat refine ⟨by first | omega | assumption | (simp only [maxLen]; omega) | (intros; omega) | decide, ?_⟩
      refine hK _ ?_
      clear hK K
      -- region 7
      refine AWp.rseq E_ok [0, 1, 2, 3, 6, 7, 8, 10, 12, 14, 38, 47, 48, 49, 50, 82, 85, 86, 87, 88, 101] fun K hK => ?_
      simp [encSer_eq, encIsss_eq, encIss_eq, encInts_eq, serR_1, serR_2, hag, h50, hj1, hjl, hjy, hy, hyw, hx, hxx]
      try simp (disch := omega) only [wrap_i64]
      repeat refine ⟨by first | omega | assumption | (simp only [maxLen]; omega) | (intros; omega) | decide, ?_⟩
      refine hK _ ?_
      clear hK K
      refine AWp.cond rfl (fun h82 => ?_) (fun h82 => ?_)
      · try simp at h82
        exfalso; omega
      · try simp at h82
        refine AWp.skip ?_
        repeat first | refine thenN ?_ | refine thenX ?_ | refine thenR ?_ | refine blockN ?_ | refine blockR ?_ | refine blockX ?_ | refine blockM rfl ?_
        -- region 9
        refine AWp.rend E_ok [0, 1, 2, 3, 6, 7, 8, 10, 12, 14, 38, 47, 48, 49, 50, 82, 85, 86, 87, 88, 101] fun K hK => ?_
        simp [encSer_eq, encIsss_eq, encIss_eq, encInts_eq, serR_1, serR_2, hag, h50, hj1, hjl, hjy, hy, hyw, hx, hxx]
        try simp (disch := omega) only [wrap_i64]
        repeat refine ⟨by first | omega | assumption | (simp only [maxLen]; omega) | (intros; omega) | decide, ?_⟩
        refine hK _ ?_
        clear hK K
        repeat first | refine thenN ?_ | refine thenX ?_ | refine thenR ?_ | refine blockN ?_ | refine blockR ?_ | refine blockX ?_ | refine blockM rfl ?_
        have hw : IntKind.i64.wrap ((k : Int) + 1) = (k : Int) + 1 := by rw [wrap_i64] <;> omega
        rw [trU] at hs
        refine ⟨_, h50, hs, ?_, ?_⟩
        · first | exact trivial | (simp; omega) | simp
        · simp [Weak, TW, hw, encSer_eq, encIsss_eq, encIss_eq, encInts_eq, serR_1, serR_2]
    · try simp at h50
      obtain rfl : k = (claimR s day wait).2.length := by omega
      refine AWp.exit ?_
      repeat first | refine thenN ?_ | refine thenX ?_ | refine thenR ?_ | refine blockN ?_ | refine blockR ?_ | refine blockX ?_ | refine blockM rfl ?_
      refine AWp.seq ?_
      -- region 10
      refine AWp.rseq E_ok [0, 1, 2, 3, 6, 7, 8, 10, 12, 14, 38, 47, 48, 49, 50, 82, 85, 86, 87, 88, 101] fun K hK => ?_
      simp [encSer_eq, encIsss_eq, encIss_eq, encInts_eq, serR_1, serR_2, hag, h50]
      try simp (disch := omega) only [wrap_i64]
      repeat refine ⟨by first | omega | assumption | (simp only [maxLen]; omega) | (intros; omega) | decide, ?_⟩
      refine hK _ ?_
      clear hK K
      refine AWp.block ?_
      refine AWp.range (l := (claimR s day wait).1.iss) (F := trU) (tot := trU () (claimR s day wait).1.iss) (fun k2 y => match y with | () => True) (fun k2 y => match y with | () => [(0, T.val (D.agg [D.int IntKind.i64 s.rcd, D.int IntKind.i64 s.pat.start, D.int IntKind.i64 s.pat.every, D.int IntKind.i64 s.pat.per, D.int IntKind.i64 s.pat.first, (D.int IntKind.i64 0).slice (List.map (D.int IntKind.i64) s.pat.skip), (D.int IntKind.i64 0).slice (List.map (D.int IntKind.i64) s.pat.dbl), D.int IntKind.i64 s.next, (D.agg [D.int IntKind.i64 zIss.vol, D.int IntKind.i64 zIss.num, D.int IntKind.i64 zIss.last, D.int IntKind.i64 zIss.day, D.int IntKind.i64 zIss.st, D.int IntKind.i64 zIss.item]).slice (List.map encIss s.iss)])), (1, T.val (D.int IntKind.i64 day)), (2, T.val (D.int IntKind.i64 wait)), (7, T.box [C.d (D.int IntKind.i64 (claimR s day wait).fst.rcd), C.d (D.int IntKind.i64 (claimR s day wait).fst.pat.start), C.d (D.int IntKind.i64 (claimR s day wait).fst.pat.every), C.d (D.int IntKind.i64 (claimR s day wait).fst.pat.per), C.d (D.int IntKind.i64 (claimR s day wait).fst.pat.first), C.d ((D.int IntKind.i64 0).slice (List.map (D.int IntKind.i64) (claimR s day wait).fst.pat.skip)), C.d ((D.int IntKind.i64 0).slice (List.map (D.int IntKind.i64) (claimR s day wait).fst.pat.dbl)), C.d (D.int IntKind.i64 (claimR s day wait).fst.next), C.d ((D.agg [D.int IntKind.i64 zIss.vol, D.int IntKind.i64 zIss.num, D.int IntKind.i64 zIss.last, D.int IntKind.i64 zIss.day, D.int IntKind.i64 zIss.st, D.int IntKind.i64 zIss.item]).slice (List.map encIss (claimR s day wait).fst.iss))]), (85, T.val ((D.agg [D.int IntKind.i64 zIss.vol, D.int IntKind.i64 zIss.num, D.int IntKind.i64 zIss.last, D.int IntKind.i64 zIss.day, D.int IntKind.i64 zIss.st, D.int IntKind.i64 zIss.item]).slice (List.map encIss (claimR s day wait).fst.iss))), (86, T.val (D.int IntKind.i64 ↑(claimR s day wait).fst.iss.length)), (87, T.val (.int .i64 k2))]) () ?_ rfl ?_ ?_
      · simp [Weak, TW, encSer_eq, encIsss_eq, encIss_eq, encInts_eq, serR_1, serR_2]
      · first | exact trivial | (simp; omega) | simp
      rintro k2 ⟨⟩ hk2 hs2 hi2
      try simp only at hi2
      -- region 11
      refine AWp.rseq E_ok [0, 1, 2, 3, 6, 7, 8, 10, 12, 14, 38, 47, 48, 49, 50, 82, 85, 86, 87, 88, 101] fun K hK => ?_
      simp [encSer_eq, encIsss_eq, encIss_eq, encInts_eq, serR_1, serR_2, hag, h50]
      try simp (disch := omega) only [wrap_i64]
      repeat refine ⟨by first | omega | assumption | (simp only [maxLen]; omega) | (intros; omega) | decide, ?_⟩
      refine hK _ ?_
      clear hK K
      refine AWp.seq ?_
      refine AWp.cond rfl (fun h88 => ?_) (fun h88 => ?_)
      · try simp at h88
        obtain ⟨x2, hx2, hxx2, hd2⟩ := at_indexG (l := (claimR s day wait).1.iss) h88
        rw [hd2] at hs2
        have hnl := clm_no (day := day) (wait := wait) (show x2 ∈ s.iss.map (clm day wait) from List.mem_of_getElem? hx2)
        have hxd := (claim_stay h day wait).1.rng (show x2 ∈ (claimR s day wait).1.iss from List.mem_of_getElem? hx2)
        have hxw : IntKind.i64.wrap (x2.day + wait) = x2.day + wait := by rw [wrap_i64] <;> omega
        unfold Late at hnl
        refine AWp.skip ?_
        repeat first | refine thenN ?_ | refine thenX ?_ | refine thenR ?_ | refine blockN ?_ | refine blockR ?_ | refine blockX ?_ | refine blockM rfl ?_
        refine AWp.seq ?_
        refine AWp.block ?_
        -- region 12
        refine AWp.rseq E_ok [0, 1, 2, 3, 6, 7, 8, 10, 12, 14, 38, 47, 48, 49, 50, 82, 85, 86, 87, 88, 101] fun K hK => ?_
        simp [encSer_eq, encIsss_eq, encIss_eq, encInts_eq, serR_1, serR_2, hag, h50, h88, hxw, hx2, hxx2]
        try simp (disch := omega) only [wrap_i64]
        repeat refine ⟨by first | omega | assumption | (simp only [maxLen]; omega) | (intros; omega) | decide, ?_⟩
        refine hK _ ?_
        clear hK K
        -- region 13
        refine AWp.rseq E_ok [0, 1, 2, 3, 6, 7, 8, 10, 12, 14, 38, 47, 48, 49, 50, 82, 85, 86, 87, 88, 101] fun K hK => ?_
        simp [encSer_eq, encIsss_eq, encIss_eq, encInts_eq, serR_1, serR_2, hag, h50, h88, hxw, hx2, hxx2]
        try simp (disch := omega) only [wrap_i64]
        repeat refine ⟨by first | omega | assumption | (simp only [maxLen]; omega) | (intros; omega) | decide, ?_⟩
        refine hK _ ?_
        clear hK K
        refine AWp.cond rfl (fun h101 => ?_) (fun h101 => ?_)
        · try simp at h101
          exfalso; omega
        · try simp at h101
          refine AWp.skip ?_
          repeat first | refine thenN ?_ | refine thenX ?_ | refine thenR ?_ | refine blockN ?_ | refine blockR ?_ | refine blockX ?_ | refine blockM rfl ?_
          -- region 15
          refine AWp.rend E_ok [0, 1, 2, 3, 6, 7, 8, 10, 12, 14, 38, 47, 48, 49, 50, 82, 85, 86, 87, 88, 101] fun K hK => ?_
          simp [encSer_eq, encIsss_eq, encIss_eq, encInts_eq, serR_1, serR_2, hag, h50, h88, hxw, hx2, hxx2]
          try simp (disch := omega) only [wrap_i64]
          repeat refine ⟨by first | omega | assumption | (simp only [maxLen]; omega) | (intros; omega) | decide, ?_⟩
          refine hK _ ?_
          clear hK K
          repeat first | refine thenN ?_ | refine thenX ?_ | refine thenR ?_ | refine blockN ?_ | refine blockR ?_ | refine blockX ?_ | refine blockM rfl ?_
          have hw2 : IntKind.i64.wrap ((k2 : Int) + 1) = (k2 : Int) + 1 := by rw [wrap_i64] <;> omega
          rw [trU] at hs2
          refine ⟨_, h88, hs2, ?_, ?_⟩
          · first | exact trivial | (simp; omega) | simp
          · simp [Weak, TW, hw2, encSer_eq, encIsss_eq, encIss_eq, encInts_eq, serR_1, serR_2]
      · try simp at h88
        obtain rfl : k2 = (claimR s day wait).1.iss.length := by omega
        refine AWp.exit ?_
        repeat first | refine thenN ?_ | refine thenX ?_ | refine thenR ?_ | refine blockN ?_ | refine blockR ?_ | refine blockX ?_ | refine blockM rfl ?_
        -- region 16
        refine AWp.rseq E_ok [0, 1, 2, 3, 6, 7, 8, 10, 12, 14, 38, 47, 48, 49, 50, 82, 85, 86, 87, 88, 101] fun K hK => ?_
        simp [encSer_eq, encIsss_eq, encIss_eq, encInts_eq, serR_1, serR_2, hag, h50, h88]
        try simp (disch := omega) only [wrap_i64]
        repeat refine ⟨by first | omega | assumption | (simp only [maxLen]; omega) | (intros; omega) | decide, ?_⟩
        refine meet.of (serial_Claim (claimR s day wait).1 day wait (iss_claim _ _ hl) (fun x hx => by have := (claim_stay h day wait).1.rng hx; omega)) ?_
        simp [encSer_eq, encIsss_eq, encIss_eq, encInts_eq, serR_1, serR_2, hag, h50, h88]
        try simp (disch := omega) only [wrap_i64]
        repeat refine ⟨by first | omega | assumption | (simp only [maxLen]; omega) | (intros; omega) | decide, ?_⟩
        refine hK _ ?_
        clear hK K
        -- region 17
        refine AWp.rseq E_ok [0, 1, 2, 3, 6, 7, 8, 10, 12, 14, 38, 47, 48, 49, 50, 82, 85, 86, 87, 88, 101] fun K hK => ?_
        simp [encSer_eq, encIsss_eq, encIss_eq, encInts_eq, serR_1, serR_2, hag, h50, h88]
        try simp (disch := omega) only [wrap_i64]
        repeat refine ⟨by first | omega | assumption | (simp only [maxLen]; omega) | (intros; omega) | decide, ?_⟩
        refine meet.of (law37_alive) ?_
        simp [encSer_eq, encIsss_eq, encIss_eq, encInts_eq, serR_1, serR_2, hag, h50, h88]
        try simp (disch := omega) only [wrap_i64]
        repeat refine ⟨by first | omega | assumption | (simp only [maxLen]; omega) | (intros; omega) | decide, ?_⟩
        refine hK _ ?_
        clear hK K
        refine AWp.ret ?_
        repeat first | refine thenN ?_ | refine thenX ?_ | refine thenR ?_ | refine blockN ?_ | refine blockR ?_ | refine blockX ?_ | refine blockM rfl ?_
        simp [RetOk, RV]
end Go.Proofs.Ytceapemkefaicaa
