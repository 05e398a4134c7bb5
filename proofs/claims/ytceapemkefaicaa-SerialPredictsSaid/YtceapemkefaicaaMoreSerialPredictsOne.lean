/-
  What the functions compute that the statement reaches: contracts, and the plain laws between them. Conditions stand at each theorem.
-/
import Derived.Test.YtceapemkefaicaaWalkSix
set_option linter.unusedVariables false
set_option linter.unusedSimpArgs false
/- Serials: how long things are. -/
namespace Pl
open Go Ab
set_option linter.unusedVariables false
set_option linter.unusedSimpArgs false
theorem small_ok {s : Ser} (h : smallS s = true) : s.iss.length ≤ 140 ∧ s.pat.skip.length ≤ 20 ∧ s.pat.dbl.length ≤ 20 := by
  unfold smallS at h; simp at h; omega
def LenS (s : Ser) : Prop := s.pat.skip.length ≤ 100000 ∧ s.pat.dbl.length ≤ 100000 ∧ s.iss.length ≤ 100000
theorem len_z : LenS zSer := by unfold LenS; decide
theorem len_new (r : Int) {p : Pat} (h : (0 : Nat) ≤ 140 ∧ p.skip.length ≤ 20 ∧ p.dbl.length ≤ 20) : LenS (newR r p).1 := by
  unfold newR
  split
  · exact len_z
  · split
    · exact len_z
    · unfold LenS; simp; omega
theorem len_exp {s : Ser} (d : Int) (h : s.iss.length ≤ 140 ∧ s.pat.skip.length ≤ 20 ∧ s.pat.dbl.length ≤ 20) : LenS (expR s d).1 := by
  have := list_len s.pat s.next (untilR s.pat d - s.next)
  unfold expR
  split
  · unfold LenS; simp only; omega
  · split
    · exact len_z
    · unfold LenS; simp only [List.length_append]; omega
theorem len_rec {s : Ser} (v n it : Int) (h : s.iss.length ≤ 140 ∧ s.pat.skip.length ≤ 20 ∧ s.pat.dbl.length ≤ 20) : LenS (recR s v n it).1 := by
  unfold recR
  split
  · exact len_z
  · split
    · exact len_z
    · split
      · exact len_z
      · unfold LenS; simp only [List.length_set]; omega
theorem len_miss {s : Ser} (v n : Int) (h : s.iss.length ≤ 140 ∧ s.pat.skip.length ≤ 20 ∧ s.pat.dbl.length ≤ 20) : LenS (missR s v n).1 := by
  unfold missR
  split
  · exact len_z
  · split
    · exact len_z
    · unfold LenS; simp only [List.length_set]; omega
theorem len_claim {s : Ser} (d w : Int) (h : s.iss.length ≤ 140 ∧ s.pat.skip.length ≤ 20 ∧ s.pat.dbl.length ≤ 20) : LenS (claimR s d w).1 := by
  unfold claimR LenS; simp only [List.length_map]; omega
theorem len_claim2 {s : Ser} (d w : Int) (h : s.iss.length ≤ 140 ∧ s.pat.skip.length ≤ 20 ∧ s.pat.dbl.length ≤ 20) : (claimR s d w).2.length ≤ 100000 := by
  have := lateIx_len d w s.iss 0
  unfold claimR; simp only; omega
theorem len_bind {s : Ser} (v it : Int) (h : s.iss.length ≤ 140 ∧ s.pat.skip.length ≤ 20 ∧ s.pat.dbl.length ≤ 20) : LenS (bindR s v it).1 := by
  unfold bindR
  split
  · exact len_z
  · split
    · exact len_z
    · split
      · exact len_z
      · unfold LenS; simp only [List.length_map]; omega
theorem SerOk.free {s : Ser} (h : SerOk s) {x : Iss} (hx : x ∈ s.iss) (hs : x.st = 1 ∨ x.st = 3) : x.item = 0 := by
  obtain ⟨i, hi⟩ := List.getElem?_of_mem hx
  have := h.iss hi; omega
theorem iss_rec {s : Ser} (v n it : Int) (h : s.iss.length ≤ 1000) : (recR s v n it).1.iss.length ≤ 1000 := by
  unfold recR
  split
  · exact Nat.zero_le _
  · split
    · exact Nat.zero_le _
    · split
      · exact Nat.zero_le _
      · simp only [List.length_set]; exact h
theorem iss_miss {s : Ser} (v n : Int) (h : s.iss.length ≤ 1000) : (missR s v n).1.iss.length ≤ 1000 := by
  unfold missR
  split
  · exact Nat.zero_le _
  · split
    · exact Nat.zero_le _
    · simp only [List.length_set]; exact h
theorem iss_bind {s : Ser} (v it : Int) (h : s.iss.length ≤ 1000) : (bindR s v it).1.iss.length ≤ 1000 := by
  unfold bindR
  split
  · exact Nat.zero_le _
  · split
    · exact Nat.zero_le _
    · split
      · exact Nat.zero_le _
      · simp only [List.length_map]; exact h
theorem iss_claim {s : Ser} (d w : Int) (h : s.iss.length ≤ 1000) : (claimR s d w).1.iss.length ≤ 1000 := by
  unfold claimR; simp only [List.length_map]; exact h
theorem claim_again (s : Ser) (d w : Int) : (claimR (claimR s d w).1 d w).2 = [] := late_none _ _
/-- a loop that finds no fault -/
def trU {α : Type} : Unit → List α → Bool
  | _, [] => true
  | _, _ :: l => trU () l
def FndC (v n : Int) (x : Iss) : Prop := (x.vol = v ∧ (x.num = n ∨ x.num ≤ n ∧ n ≤ x.last)) ∧ (x.st = 2 ∨ x.st = 4)
instance (v n : Int) (x : Iss) : Decidable (FndC v n x) := by unfold FndC; infer_instance
def fndB (v n : Int) : Bool → List Iss → Bool
  | b, [] => b
  | b, x :: l => fndB v n (b || decide (FndC v n x)) l
theorem fndB_true (v n : Int) : ∀ l : List Iss, fndB v n true l = true
  | [] => rfl
  | x :: l => by unfold fndB; rw [Bool.true_or]; exact fndB_true v n l
theorem fndB_mem {v n : Int} : ∀ {l : List Iss} (b : Bool) {y : Iss}, y ∈ l → FndC v n y → fndB v n b l = true
  | x :: l, b, y, hy, hf => by
    unfold fndB
    rcases List.mem_cons.1 hy with rfl | hy
    · rw [decide_eq_true hf, Bool.or_true]; exact fndB_true v n l
    · exact fndB_mem _ hy hf
theorem held_fnd {s : Ser} (h : SerOk s) {v n : Int} (hv : heldB s.iss s.pat.per v = true) (h1 : 1 ≤ n) (h2 : n ≤ s.pat.per) : fndB v n false s.iss = true := by
  obtain ⟨y, hy, hn, hs⟩ := held_num h hv h1 h2
  exact fndB_mem false hy ⟨hn, hs⟩
theorem gap_len : ∀ (l : List Iss) (i : Int), (gapF i l).length ≤ l.length
  | [], _ => by simp [gapF]
  | x :: l, i => by
    have := gap_len l (i + 1)
    unfold gapF
    split
    · simp only [List.length_cons]; omega
    · simp only [List.length_cons]; omega
theorem len_gaps {s : Ser} (h : SerOk s) : (gapsR s).length ≤ 100000 := by have := gap_len s.iss 0; have := h.len; unfold gapsR; omega
theorem addS_len (o : List Spn) (v : Int) : (addS o v).length ≤ o.length + 1 := by
  unfold addS
  split
  · split
    · simp <;> omega
    · simp
  · simp
theorem hld_len (l : List Iss) (per : Int) : ∀ (r : List Iss) (i : Nat) (o : List Spn), (hldF l per (i, o) r).length ≤ o.length + r.length
  | [], i, o => by simp [hldF]
  | x :: r, i, o => by
    rw [hldF_go]
    split
    · have := hld_len l per r (i + 1) o; simp only [List.length_cons]; omega
    · have := hld_len l per r (i + 1) (addS o x.vol); have := addS_len o x.vol; simp only [List.length_cons]; omega
theorem len_held {s : Ser} (h : SerOk s) : (heldR s).length ≤ 100000 := by have h1 := hld_len s.iss s.pat.per s.iss 0 []; have h2 := h.len; unfold heldR; rw [List.length_nil] at h1; omega
end Pl

set_option maxRecDepth 100000
set_option linter.unusedSimpArgs false
set_option linter.unusedVariables false
namespace Go.Proofs.Ytceapemkefaicaa
open Go Ab Pl
theorem ref37_Small (s : Ser) : ACalls E.P 14 [encSer s] (.d (.bool (smallS s))) := by
  refine ACalls.intro E_ok Try.func14 rfl rfl Try.ntmps14 Try.results14 (Nat.le_of_ble_eq_true rfl) fun hok base S0 w0 => ?_
  -- region 0
  refine AWp.rseq E_ok [0, 1, 2] fun K hK => ?_
  simp [encSer_eq, encIsss_eq, encInts_eq]
  repeat refine ⟨by first | omega | assumption | (simp only [maxLen]; omega) | (intros; omega) | decide, ?_⟩
  refine hK _ ?_
  clear hK K
  -- region 1
  refine AWp.rseq E_ok [0, 1, 2] fun K hK => ?_
  simp [encSer_eq, encIsss_eq, encInts_eq]
  repeat refine ⟨by first | omega | assumption | (simp only [maxLen]; omega) | (intros; omega) | decide, ?_⟩
  refine hK _ ?_
  clear hK K
  refine AWp.ret ?_
  repeat first | refine thenN ?_ | refine thenX ?_ | refine thenR ?_ | refine blockN ?_ | refine blockR ?_ | refine blockX ?_ | refine blockM rfl ?_
  simp [RetOk, RV, smallS]; rw [Bool.eq_iff_iff]; simp; omega
end Go.Proofs.Ytceapemkefaicaa

set_option maxRecDepth 100000
set_option linter.unusedSimpArgs false
set_option linter.unusedVariables false
namespace Go.Proofs.Ytceapemkefaicaa
open Go Ab Pl
theorem ref36_Same (a b : List Iss) (hl : a.length ≤ 100000) : ACalls E.P 41 [encIsss a, encIsss b] (.d (.bool (decide (a = b)))) := by
  refine ACalls.intro E_ok Try.func41 rfl rfl Try.ntmps41 Try.results41 (Nat.le_of_ble_eq_true rfl) fun hok base S0 w0 => ?_
  -- region 0
  refine AWp.rseq E_ok [0, 1, 4, 5, 10, 14, 25] fun K hK => ?_
  simp [encIsss_eq, encIss_eq]
  repeat refine ⟨by first | omega | assumption | (simp only [maxLen]; omega) | (intros; omega) | decide, ?_⟩
  refine hK _ ?_
  clear hK K
  refine AWp.seq ?_
  -- region 1
  refine AWp.rseq E_ok [0, 1, 4, 5, 10, 14, 25] fun K hK => ?_
  simp [encIsss_eq, encIss_eq]
  repeat refine ⟨by first | omega | assumption | (simp only [maxLen]; omega) | (intros; omega) | decide, ?_⟩
  refine hK _ ?_
  clear hK K
  refine AWp.cond rfl (fun h10 => ?_) (fun h10 => ?_)
  · try simp at h10
    have hb : decide (a = b) = false := decide_eq_false fun h => h10 (by rw [h])
    -- region 2
    refine AWp.rseq E_ok [0, 1, 4, 5, 10, 14, 25] fun K hK => ?_
    simp [encIsss_eq, encIss_eq]
    repeat refine ⟨by first | omega | assumption | (simp only [maxLen]; omega) | (intros; omega) | decide, ?_⟩
    refine hK _ ?_
    clear hK K
    refine AWp.ret ?_
    repeat first | refine thenN ?_ | refine thenX ?_ | refine thenR ?_ | refine blockN ?_ | refine blockR ?_ | refine blockX ?_ | refine blockM rfl ?_
    simp [RetOk, RV, hb]
  · try simp at h10
    have hle := samF_eq a b (by omega)
    refine AWp.skip ?_
    repeat first | refine thenN ?_ | refine thenX ?_ | refine thenR ?_ | refine blockN ?_ | refine blockR ?_ | refine blockX ?_ | refine blockM rfl ?_
    refine AWp.seq ?_
    -- region 3
    refine AWp.rseq E_ok [0, 1, 4, 5, 10, 14, 25] fun K hK => ?_
    simp [encIsss_eq, encIss_eq]
    repeat refine ⟨by first | omega | assumption | (simp only [maxLen]; omega) | (intros; omega) | decide, ?_⟩
    refine hK _ ?_
    clear hK K
    refine AWp.block ?_
    refine AWp.range (l := a) (F := samF) (tot := samF b a) (fun k y => match y with | bs => bs = b.drop k) (fun k y => match y with | bs => [(0, T.val ((D.agg [D.int IntKind.i64 zIss.vol, D.int IntKind.i64 zIss.num, D.int IntKind.i64 zIss.last, D.int IntKind.i64 zIss.day, D.int IntKind.i64 zIss.st, D.int IntKind.i64 zIss.item]).slice (List.map encIss a))), (1, T.val ((D.agg [D.int IntKind.i64 zIss.vol, D.int IntKind.i64 zIss.num, D.int IntKind.i64 zIss.last, D.int IntKind.i64 zIss.day, D.int IntKind.i64 zIss.st, D.int IntKind.i64 zIss.item]).slice (List.map encIss b))), (5, T.val (.int .i64 k))]) (b) ?_ rfl ?_ ?_
    · simp [Weak, TW, encIsss_eq, encIss_eq]
    · first | exact trivial | (simp; omega) | simp
    rintro k bs hk hs hi
    try simp only at hi
    refine AWp.seq ?_
    -- region 4
    refine AWp.rseq E_ok [0, 1, 4, 5, 10, 14, 25] fun K hK => ?_
    simp [encIsss_eq, encIss_eq]
    repeat refine ⟨by first | omega | assumption | (simp only [maxLen]; omega) | (intros; omega) | decide, ?_⟩
    refine hK _ ?_
    clear hK K
    refine AWp.cond rfl (fun h14 => ?_) (fun h14 => ?_)
    · try simp at h14
      obtain ⟨y, hy1, hy2, hyd⟩ := at_indexG (l := b) (k := k) (by omega)
      rw [hi, hyd] at hs
      obtain ⟨x, hx, hxx, hd⟩ := at_indexG (l := a) h14
      rw [hd] at hs
      refine AWp.skip ?_
      repeat first | refine thenN ?_ | refine thenX ?_ | refine thenR ?_ | refine blockN ?_ | refine blockR ?_ | refine blockX ?_ | refine blockM rfl ?_
      refine AWp.seq ?_
      refine AWp.block ?_
      -- region 6
      refine AWp.rseqQ E_ok mixed [0, 1, 4, 5, 10, 14, 25] (by kernel_rfl) fun K hK => ?_
      simp [encIsss_eq, encIss_eq, h14, hy1, hx, hxx]
      repeat refine ⟨by first | omega | assumption | (simp only [maxLen]; omega) | (intros; omega) | decide, ?_⟩
      refine hK _ ?_
      clear hK K
      refine AWp.cond rfl (fun h25 => ?_) (fun h25 => ?_)
      · try simp at h25
        have hne : ¬ x = y := by rw [iss_eq]; omega
        rw [samF, if_neg hne] at hs
        have hb : decide (a = b) = false := by rw [← hle, ← hs]
        -- region 7
        refine AWp.rseq E_ok [0, 1, 4, 5, 10, 14, 25] fun K hK => ?_
        simp [encIsss_eq, encIss_eq, h14, hy1, hx, hxx]
        repeat refine ⟨by first | omega | assumption | (simp only [maxLen]; omega) | (intros; omega) | decide, ?_⟩
        refine hK _ ?_
        clear hK K
        refine AWp.ret ?_
        repeat first | refine thenN ?_ | refine thenX ?_ | refine thenR ?_ | refine blockN ?_ | refine blockR ?_ | refine blockX ?_ | refine blockM rfl ?_
        simp [RetOk, RV, hb]
      · try simp at h25
        have hxy : x = y := (iss_eq x y).2 (by omega)
        rw [samF, if_pos hxy] at hs
        refine AWp.skip ?_
        repeat first | refine thenN ?_ | refine thenX ?_ | refine thenR ?_ | refine blockN ?_ | refine blockR ?_ | refine blockX ?_ | refine blockM rfl ?_
        -- region 5
        refine AWp.rend E_ok [0, 1, 4, 5, 10, 14, 25] fun K hK => ?_
        simp [encIsss_eq, encIss_eq, h14, hy1, hx, hxx]
        repeat refine ⟨by first | omega | assumption | (simp only [maxLen]; omega) | (intros; omega) | decide, ?_⟩
        refine hK _ ?_
        clear hK K
        repeat first | refine thenN ?_ | refine thenX ?_ | refine thenR ?_ | refine blockN ?_ | refine blockR ?_ | refine blockX ?_ | refine blockM rfl ?_
        have hw : IntKind.i64.wrap ((k : Int) + 1) = (k : Int) + 1 := by rw [wrap_i64] <;> omega
        skip
        refine ⟨_, h14, hs, ?_, ?_⟩
        · first | exact trivial | (simp; omega) | simp
        · simp [Weak, TW, hw, encIsss_eq, encIss_eq]
    · try simp at h14
      obtain rfl : k = a.length := by omega
      simp [samF] at hs
      have hb : decide (a = b) = true := by rw [← hle]; simp [hs]
      refine AWp.exit ?_
      repeat first | refine thenN ?_ | refine thenX ?_ | refine thenR ?_ | refine blockN ?_ | refine blockR ?_ | refine blockX ?_ | refine blockM rfl ?_
      -- region 8
      refine AWp.rseq E_ok [0, 1, 4, 5, 10, 14, 25] fun K hK => ?_
      simp [encIsss_eq, encIss_eq, h14]
      repeat refine ⟨by first | omega | assumption | (simp only [maxLen]; omega) | (intros; omega) | decide, ?_⟩
      refine hK _ ?_
      clear hK K
      refine AWp.ret ?_
      repeat first | refine thenN ?_ | refine thenX ?_ | refine thenR ?_ | refine blockN ?_ | refine blockR ?_ | refine blockX ?_ | refine blockM rfl ?_
      simp [RetOk, RV, hb]
end Go.Proofs.Ytceapemkefaicaa

/- Lists of integers compared. -/
namespace Pl
open Go Ab
set_option linter.unusedVariables false
set_option linter.unusedSimpArgs false
def samZ : List Int → List Int → Bool
  | _, [] => true
  | [], _ :: _ => false
  | y :: b, x :: a => if x = y then samZ b a else false
theorem samZ_eq : ∀ (a b : List Int), a.length = b.length → samZ b a = decide (a = b)
  | [], [], _ => by simp [samZ]
  | x :: a, y :: b, h => by
    rw [samZ, samZ_eq a b (by simpa using h)]
    by_cases hxy : x = y
    · subst hxy; simp
    · simp [hxy]
end Pl

set_option maxRecDepth 100000
set_option linter.unusedSimpArgs false
set_option linter.unusedVariables false
namespace Go.Proofs.Ytceapemkefaicaa
open Go Ab Pl
theorem ref37_same (a b : List Int) (hl : a.length ≤ 100000) : ACalls E.P 70 [encInts a, encInts b] (.d (.bool (decide (a = b)))) := by
  refine ACalls.intro E_ok Try.func70 rfl rfl Try.ntmps70 Try.results70 (Nat.le_of_ble_eq_true rfl) fun hok base S0 w0 => ?_
  -- region 0
  refine AWp.rseq E_ok [0, 1, 4, 5, 10, 14, 25] fun K hK => ?_
  simp [encInts_eq]
  repeat refine ⟨by first | omega | assumption | (simp only [maxLen]; omega) | (intros; omega) | decide, ?_⟩
  refine hK _ ?_
  clear hK K
  refine AWp.seq ?_
  -- region 1
  refine AWp.rseq E_ok [0, 1, 4, 5, 10, 14, 25] fun K hK => ?_
  simp [encInts_eq]
  repeat refine ⟨by first | omega | assumption | (simp only [maxLen]; omega) | (intros; omega) | decide, ?_⟩
  refine hK _ ?_
  clear hK K
  refine AWp.cond rfl (fun h10 => ?_) (fun h10 => ?_)
  · try simp at h10
    have hb : decide (a = b) = false := decide_eq_false fun h => h10 (by rw [h])
    -- region 2
    refine AWp.rseq E_ok [0, 1, 4, 5, 10, 14, 25] fun K hK => ?_
    simp [encInts_eq]
    repeat refine ⟨by first | omega | assumption | (simp only [maxLen]; omega) | (intros; omega) | decide, ?_⟩
    refine hK _ ?_
    clear hK K
    refine AWp.ret ?_
    repeat first | refine thenN ?_ | refine thenX ?_ | refine thenR ?_ | refine blockN ?_ | refine blockR ?_ | refine blockX ?_ | refine blockM rfl ?_
    simp [RetOk, RV, hb]
  · try simp at h10
    have hle := samZ_eq a b (by omega)
    refine AWp.skip ?_
    repeat first | refine thenN ?_ | refine thenX ?_ | refine thenR ?_ | refine blockN ?_ | refine blockR ?_ | refine blockX ?_ | refine blockM rfl ?_
    refine AWp.seq ?_
    -- region 3
    refine AWp.rseq E_ok [0, 1, 4, 5, 10, 14, 25] fun K hK => ?_
    simp [encInts_eq]
    repeat refine ⟨by first | omega | assumption | (simp only [maxLen]; omega) | (intros; omega) | decide, ?_⟩
    refine hK _ ?_
    clear hK K
    refine AWp.block ?_
    refine AWp.range (l := a) (F := samZ) (tot := samZ b a) (fun k y => match y with | bs => bs = b.drop k) (fun k y => match y with | bs => [(0, T.val ((D.int IntKind.i64 0).slice (List.map (D.int IntKind.i64) a))), (1, T.val ((D.int IntKind.i64 0).slice (List.map (D.int IntKind.i64) b))), (5, T.val (.int .i64 k))]) (b) ?_ rfl ?_ ?_
    · simp [Weak, TW, encInts_eq]
    · first | exact trivial | (simp; omega) | simp
    rintro k bs hk hs hi
    try simp only at hi
    refine AWp.seq ?_
    -- region 4
    refine AWp.rseq E_ok [0, 1, 4, 5, 10, 14, 25] fun K hK => ?_
    simp [encInts_eq]
    repeat refine ⟨by first | omega | assumption | (simp only [maxLen]; omega) | (intros; omega) | decide, ?_⟩
    refine hK _ ?_
    clear hK K
    refine AWp.cond rfl (fun h14 => ?_) (fun h14 => ?_)
    · try simp at h14
      obtain ⟨y, hy1, hy2, hyd⟩ := at_indexG (l := b) (k := k) (by omega)
      rw [hi, hyd] at hs
      obtain ⟨x, hx, hxx, hd⟩ := at_indexG (l := a) h14
      rw [hd] at hs
      refine AWp.skip ?_
      repeat first | refine thenN ?_ | refine thenX ?_ | refine thenR ?_ | refine blockN ?_ | refine blockR ?_ | refine blockX ?_ | refine blockM rfl ?_
      refine AWp.seq ?_
      refine AWp.block ?_
      -- region 6
      refine AWp.rseqQ E_ok mixed [0, 1, 4, 5, 10, 14, 25] (by kernel_rfl) fun K hK => ?_
      simp [encInts_eq, h14, hy1, hx, hxx]
      repeat refine ⟨by first | omega | assumption | (simp only [maxLen]; omega) | (intros; omega) | decide, ?_⟩
      refine hK _ ?_
      clear hK K
      refine AWp.cond rfl (fun h25 => ?_) (fun h25 => ?_)
      · try simp at h25
        rw [samZ, if_neg h25] at hs
        have hb : decide (a = b) = false := by rw [← hle, ← hs]
        -- region 7
        refine AWp.rseq E_ok [0, 1, 4, 5, 10, 14, 25] fun K hK => ?_
        simp [encInts_eq, h14, hy1, hx, hxx]
        repeat refine ⟨by first | omega | assumption | (simp only [maxLen]; omega) | (intros; omega) | decide, ?_⟩
        refine hK _ ?_
        clear hK K
        refine AWp.ret ?_
        repeat first | refine thenN ?_ | refine thenX ?_ | refine thenR ?_ | refine blockN ?_ | refine blockR ?_ | refine blockX ?_ | refine blockM rfl ?_
        simp [RetOk, RV, hb]
      · try simp at h25
        rw [samZ, if_pos h25] at hs
        refine AWp.skip ?_
        repeat first | refine thenN ?_ | refine thenX ?_ | refine thenR ?_ | refine blockN ?_ | refine blockR ?_ | refine blockX ?_ | refine blockM rfl ?_
        -- region 5
        refine AWp.rend E_ok [0, 1, 4, 5, 10, 14, 25] fun K hK => ?_
        simp [encInts_eq, h14, hy1, hx, hxx]
        repeat refine ⟨by first | omega | assumption | (simp only [maxLen]; omega) | (intros; omega) | decide, ?_⟩
        refine hK _ ?_
        clear hK K
        repeat first | refine thenN ?_ | refine thenX ?_ | refine thenR ?_ | refine blockN ?_ | refine blockR ?_ | refine blockX ?_ | refine blockM rfl ?_
        have hw : IntKind.i64.wrap ((k : Int) + 1) = (k : Int) + 1 := by rw [wrap_i64] <;> omega
        skip
        refine ⟨_, h14, hs, ?_, ?_⟩
        · first | exact trivial | (simp; omega) | simp
        · simp [Weak, TW, hw, encInts_eq]
    · try simp at h14
      obtain rfl : k = a.length := by omega
      simp [samZ] at hs
      have hb : decide (a = b) = true := by rw [← hle]; simp [hs]
      refine AWp.exit ?_
      repeat first | refine thenN ?_ | refine thenX ?_ | refine thenR ?_ | refine blockN ?_ | refine blockR ?_ | refine blockX ?_ | refine blockM rfl ?_
      -- region 8
      refine AWp.rseq E_ok [0, 1, 4, 5, 10, 14, 25] fun K hK => ?_
      simp [encInts_eq, h14]
      repeat refine ⟨by first | omega | assumption | (simp only [maxLen]; omega) | (intros; omega) | decide, ?_⟩
      refine hK _ ?_
      clear hK K
      refine AWp.ret ?_
      repeat first | refine thenN ?_ | refine thenX ?_ | refine thenR ?_ | refine blockN ?_ | refine blockR ?_ | refine blockX ?_ | refine blockM rfl ?_
      simp [RetOk, RV, hb]
end Go.Proofs.Ytceapemkefaicaa

set_option maxRecDepth 100000
set_option linter.unusedSimpArgs false
set_option linter.unusedVariables false
namespace Go.Proofs.Ytceapemkefaicaa
open Go Ab Pl
theorem ref37_SamePattern (a b : Pat) (h1 : a.skip.length ≤ 100000) (h2 : a.dbl.length ≤ 100000) : ACalls E.P 47 [encPat a, encPat b] (.d (.bool (decide (a = b)))) := by
  refine ACalls.intro E_ok Try.func47 rfl rfl Try.ntmps47 Try.results47 (Nat.le_of_ble_eq_true rfl) fun hok base S0 w0 => ?_
  -- region 0
  refine AWp.rseq E_ok [0, 1, 2, 3, 4] fun K hK => ?_
  simp [encPat_eq]
  repeat refine ⟨by first | omega | assumption | (simp only [maxLen]; omega) | (intros; omega) | decide, ?_⟩
  refine hK _ ?_
  clear hK K
  -- region 1
  refine AWp.rseq E_ok [0, 1, 2, 3, 4] fun K hK => ?_
  simp [encPat_eq]
  repeat refine ⟨by first | omega | assumption | (simp only [maxLen]; omega) | (intros; omega) | decide, ?_⟩
  refine meet.of (ref37_same a.skip b.skip (by omega)) ?_
  simp [encPat_eq]
  repeat refine ⟨by first | omega | assumption | (simp only [maxLen]; omega) | (intros; omega) | decide, ?_⟩
  refine meet.of (ref37_same a.dbl b.dbl (by omega)) ?_
  simp [encPat_eq]
  repeat refine ⟨by first | omega | assumption | (simp only [maxLen]; omega) | (intros; omega) | decide, ?_⟩
  refine hK _ ?_
  clear hK K
  refine AWp.ret ?_
  repeat first | refine thenN ?_ | refine thenX ?_ | refine thenR ?_ | refine blockN ?_ | refine blockR ?_ | refine blockX ?_ | refine blockM rfl ?_
  simp [RetOk, RV]; rw [Bool.eq_iff_iff]; simp [pat_eq, and_assoc]
end Go.Proofs.Ytceapemkefaicaa

set_option maxRecDepth 100000
set_option linter.unusedSimpArgs false
set_option linter.unusedVariables false
namespace Go.Proofs.Ytceapemkefaicaa
open Go Ab Pl
theorem ref37_Same (a b : Ser) (h1 : a.pat.skip.length ≤ 100000) (h2 : a.pat.dbl.length ≤ 100000) (h3 : a.iss.length ≤ 100000) : ACalls E.P 20 [encSer a, encSer b] (.d (.bool (decide (a = b)))) := by
  refine ACalls.intro E_ok Try.func20 rfl rfl Try.ntmps20 Try.results20 (Nat.le_of_ble_eq_true rfl) fun hok base S0 w0 => ?_
  -- region 0
  refine AWp.rseq E_ok [0, 1, 2, 3, 4] fun K hK => ?_
  simp [encSer_eq, encIsss_eq]
  repeat refine ⟨by first | omega | assumption | (simp only [maxLen]; omega) | (intros; omega) | decide, ?_⟩
  refine hK _ ?_
  clear hK K
  -- region 1
  refine AWp.rseq E_ok [0, 1, 2, 3, 4] fun K hK => ?_
  simp [encSer_eq, encIsss_eq]
  repeat refine ⟨by first | omega | assumption | (simp only [maxLen]; omega) | (intros; omega) | decide, ?_⟩
  refine meet.of (ref36_Same a.iss b.iss (by omega)) ?_
  simp [encSer_eq, encIsss_eq]
  repeat refine ⟨by first | omega | assumption | (simp only [maxLen]; omega) | (intros; omega) | decide, ?_⟩
  refine meet.of (ref37_SamePattern a.pat b.pat (by omega) (by omega)) ?_
  simp [encSer_eq, encIsss_eq]
  repeat refine ⟨by first | omega | assumption | (simp only [maxLen]; omega) | (intros; omega) | decide, ?_⟩
  refine hK _ ?_
  clear hK K
  refine AWp.ret ?_
  repeat first | refine thenN ?_ | refine thenX ?_ | refine thenR ?_ | refine blockN ?_ | refine blockR ?_ | refine blockX ?_ | refine blockM rfl ?_
  simp [RetOk, RV]; rw [Bool.eq_iff_iff]; simp [ser_eq]
end Go.Proofs.Ytceapemkefaicaa

set_option maxRecDepth 100000
set_option linter.unusedSimpArgs false
set_option linter.unusedVariables false
namespace Go.Proofs.Ytceapemkefaicaa
open Go Ab Pl
set_option maxHeartbeats 8000000 in
theorem law37_SerialPredicts (p : Pat) (d1 d2 : Int) : ACalls E.P 11 [encPat p, .int .i64 d1, .int .i64 d2] (.d (.bool true)) := by
  refine ACalls.intro E_ok Try.func11 rfl rfl Try.ntmps11 Try.results11 (Nat.le_of_ble_eq_true rfl) fun hok base S0 w0 => ?_
  -- region 0
  refine AWp.rseq E_ok [0, 1, 2, 3, 6, 7, 8, 9, 10, 11, 12, 13, 14, 15, 29, 48, 59, 80] fun K hK => ?_
  simp [encPat_eq, encSer_eq, encIsss_eq, encIss_eq, patR_1, patR_2, serR_1, serR_2]
  repeat refine ⟨by first | omega | assumption | (simp only [maxLen]; omega) | (intros; omega) | decide, ?_⟩
  refine hK _ ?_
  clear hK K
  refine AWp.seq ?_
  -- region 1
  refine AWp.rseq E_ok [0, 1, 2, 3, 6, 7, 8, 9, 10, 11, 12, 13, 14, 15, 29, 48, 59, 80] fun K hK => ?_
  simp [encPat_eq, encSer_eq, encIsss_eq, encIss_eq, patR_1, patR_2, serR_1, serR_2]
  repeat refine ⟨by first | omega | assumption | (simp only [maxLen]; omega) | (intros; omega) | decide, ?_⟩
  refine meet.of (ref37_Small ⟨0, p, 0, []⟩) ?_
  simp [encPat_eq, encSer_eq, encIsss_eq, encIss_eq, patR_1, patR_2, serR_1, serR_2]
  repeat refine ⟨by first | omega | assumption | (simp only [maxLen]; omega) | (intros; omega) | decide, ?_⟩
  refine meet.of (pattern_Right p) ?_
  simp [encPat_eq, encSer_eq, encIsss_eq, encIss_eq, patR_1, patR_2, serR_1, serR_2]
  repeat refine ⟨by first | omega | assumption | (simp only [maxLen]; omega) | (intros; omega) | decide, ?_⟩
  refine hK _ ?_
  clear hK K
  refine AWp.cond rfl (fun h29 => ?_) (fun h29 => ?_)
  · try simp at h29
    -- region 2
    refine AWp.rseq E_ok [0, 1, 2, 3, 6, 7, 8, 9, 10, 11, 12, 13, 14, 15, 29, 48, 59, 80] fun K hK => ?_
    simp [encPat_eq, encSer_eq, encIsss_eq, encIss_eq, patR_1, patR_2, serR_1, serR_2]
    repeat refine ⟨by first | omega | assumption | (simp only [maxLen]; omega) | (intros; omega) | decide, ?_⟩
    refine meet.of (law37_alive) ?_
    simp [encPat_eq, encSer_eq, encIsss_eq, encIss_eq, patR_1, patR_2, serR_1, serR_2]
    repeat refine ⟨by first | omega | assumption | (simp only [maxLen]; omega) | (intros; omega) | decide, ?_⟩
    refine hK _ ?_
    clear hK K
    refine AWp.ret ?_
    repeat first | refine thenN ?_ | refine thenX ?_ | refine thenR ?_ | refine blockN ?_ | refine blockR ?_ | refine blockX ?_ | refine blockM rfl ?_
    simp [RetOk, RV]
  · try simp at h29
    have hp0 : patR p = 0 := h29.1.2
    have hp : PatOk p := patR_ok hp0
    have hsm := small_ok (s := ⟨0, p, 0, []⟩) h29.1.1
    simp only at hsm
    have hmo := until_mono p h29.2
    have hr1 := until_rng p d1
    have hr2 := until_rng p d2
    refine AWp.skip ?_
    repeat first | refine thenN ?_ | refine thenX ?_ | refine thenR ?_ | refine blockN ?_ | refine blockR ?_ | refine blockX ?_ | refine blockM rfl ?_
    -- region 3
    refine AWp.rseq E_ok [0, 1, 2, 3, 6, 7, 8, 9, 10, 11, 12, 13, 14, 15, 29, 48, 59, 80] fun K hK => ?_
    simp [encPat_eq, encSer_eq, encIsss_eq, encIss_eq, patR_1, patR_2, serR_1, serR_2]
    repeat refine ⟨by first | omega | assumption | (simp only [maxLen]; omega) | (intros; omega) | decide, ?_⟩
    refine meet.of (serial_New_1 p hp0) ?_
    simp [encPat_eq, encSer_eq, encIsss_eq, encIss_eq, patR_1, patR_2, serR_1, serR_2]
    repeat refine ⟨by first | omega | assumption | (simp only [maxLen]; omega) | (intros; omega) | decide, ?_⟩
    refine hK _ ?_
    clear hK K
    refine AWp.seq ?_
    -- region 4
    refine AWp.rseq E_ok [0, 1, 2, 3, 6, 7, 8, 9, 10, 11, 12, 13, 14, 15, 29, 48, 59, 80] fun K hK => ?_
    simp [encPat_eq, encSer_eq, encIsss_eq, encIss_eq, patR_1, patR_2, serR_1, serR_2]
    repeat refine ⟨by first | omega | assumption | (simp only [maxLen]; omega) | (intros; omega) | decide, ?_⟩
    refine hK _ ?_
    clear hK K
    refine AWp.cond rfl (fun h48 => ?_) (fun h48 => ?_)
    · exact absurd h48 (by simp)
    · try simp at h48
      refine AWp.skip ?_
      repeat first | refine thenN ?_ | refine thenX ?_ | refine thenR ?_ | refine blockN ?_ | refine blockR ?_ | refine blockX ?_ | refine blockM rfl ?_
      -- region 6
      refine AWp.rseq E_ok [0, 1, 2, 3, 6, 7, 8, 9, 10, 11, 12, 13, 14, 15, 29, 48, 59, 80] fun K hK => ?_
      simp [encPat_eq, encSer_eq, encIsss_eq, encIss_eq, patR_1, patR_2, serR_1, serR_2, h48]
      repeat refine ⟨by first | omega | assumption | (simp only [maxLen]; omega) | (intros; omega) | decide, ?_⟩
      refine meet.of (pattern_Until p d2 hp) ?_
      simp [encPat_eq, encSer_eq, encIsss_eq, encIss_eq, patR_1, patR_2, serR_1, serR_2, h48]
      repeat refine ⟨by first | omega | assumption | (simp only [maxLen]; omega) | (intros; omega) | decide, ?_⟩
      refine hK _ ?_
      clear hK K
      -- region 7
      refine AWp.rseq E_ok [0, 1, 2, 3, 6, 7, 8, 9, 10, 11, 12, 13, 14, 15, 29, 48, 59, 80] fun K hK => ?_
      simp [encPat_eq, encSer_eq, encIsss_eq, encIss_eq, patR_1, patR_2, serR_1, serR_2, h48]
      repeat refine ⟨by first | omega | assumption | (simp only [maxLen]; omega) | (intros; omega) | decide, ?_⟩
      refine meet.of (serial_Expect ⟨1, p, 0, []⟩ d2 hp (by simp) (by simp)) ?_
      simp [encPat_eq, encSer_eq, encIsss_eq, encIss_eq, patR_1, patR_2, serR_1, serR_2, h48]
      repeat refine ⟨by first | omega | assumption | (simp only [maxLen]; omega) | (intros; omega) | decide, ?_⟩
      refine hK _ ?_
      clear hK K
      refine AWp.seq ?_
      -- region 8
      refine AWp.rseq E_ok [0, 1, 2, 3, 6, 7, 8, 9, 10, 11, 12, 13, 14, 15, 29, 48, 59, 80] fun K hK => ?_
      simp [encPat_eq, encSer_eq, encIsss_eq, encIss_eq, patR_1, patR_2, serR_1, serR_2, h48]
      repeat refine ⟨by first | omega | assumption | (simp only [maxLen]; omega) | (intros; omega) | decide, ?_⟩
      refine hK _ ?_
      clear hK K
      refine AWp.cond rfl (fun h59 => ?_) (fun h59 => ?_)
      · try simp at h59
        have he := exp_full p d2 (by omega)
        -- region 9
        refine AWp.rseq E_ok [0, 1, 2, 3, 6, 7, 8, 9, 10, 11, 12, 13, 14, 15, 29, 48, 59, 80] fun K hK => ?_
        simp [encPat_eq, encSer_eq, encIsss_eq, encIss_eq, patR_1, patR_2, serR_1, serR_2, h48, he]
        repeat refine ⟨by first | omega | assumption | (simp only [maxLen]; omega) | (intros; omega) | decide, ?_⟩
        refine meet.of (law37_alive) ?_
        simp [encPat_eq, encSer_eq, encIsss_eq, encIss_eq, patR_1, patR_2, serR_1, serR_2, h48, he]
        repeat refine ⟨by first | omega | assumption | (simp only [maxLen]; omega) | (intros; omega) | decide, ?_⟩
        refine hK _ ?_
        clear hK K
        refine AWp.ret ?_
        repeat first | refine thenN ?_ | refine thenX ?_ | refine thenR ?_ | refine blockN ?_ | refine blockR ?_ | refine blockX ?_ | refine blockM rfl ?_
        simp [RetOk, RV]
      · try simp at h59
        have he := exp_first p d2 (by omega)
        have he1 := exp_first p d1 (by omega)
        have htwo := exp_two p h29.2 (by omega)
        rw [he, he1] at htwo
        have hlen1 : (listR p 0 (untilR p d1)).length ≤ 1000 := by have := list_0 p (untilR p d1).toNat; rw [Int.toNat_of_nonneg hr1.1] at this; rw [this, List.length_take]; omega
        have hlen2 : (listR p 0 (untilR p d2)).length ≤ 1000 := by have := list_0 p (untilR p d2).toNat; rw [Int.toNat_of_nonneg hr2.1] at this; rw [this, List.length_take]; omega
        have hright : serR ⟨1, p, untilR p d2, listR p 0 (untilR p d2)⟩ = 0 := by have := ok_serR (exp_ok hp0 (n := (untilR p d2).toNat) (by omega) (by have := until_le p d2; omega)); rw [Int.toNat_of_nonneg hr2.1] at this; exact this
        refine AWp.skip ?_
        repeat first | refine thenN ?_ | refine thenX ?_ | refine thenR ?_ | refine blockN ?_ | refine blockR ?_ | refine blockX ?_ | refine blockM rfl ?_
        refine AWp.seq ?_
        -- region 10, every order
        refine AWp.rseqS E_ok mixed [0, 1, 2, 3, 6, 7, 8, 9, 10, 11, 12, 13, 14, 15, 29, 48, 59, 80] (n := 16) (l := #[false, false, false, false, false, false, false, false, false, false, false, false, false, false, false, false]) rfl (by kernel_rfl) fun K hK => ?_
        suffices hnext : K [(0, T.val (D.agg [D.int IntKind.i64 p.start, D.int IntKind.i64 p.every, D.int IntKind.i64 p.per, D.int IntKind.i64 p.first, encInts p.skip, encInts p.dbl])), (1, T.val (D.int IntKind.i64 d1)), (2, T.val (D.int IntKind.i64 d2)), (3, T.box [C.d (D.int IntKind.i64 p.start), C.d (D.int IntKind.i64 p.every), C.d (D.int IntKind.i64 p.per), C.d (D.int IntKind.i64 p.first), C.d (encInts p.skip), C.d (encInts p.dbl)]), (6, T.val (D.bool false)), (7, T.box [C.d (D.int IntKind.i64 (1 : Int)), C.d (D.int IntKind.i64 p.start), C.d (D.int IntKind.i64 p.every), C.d (D.int IntKind.i64 p.per), C.d (D.int IntKind.i64 p.first), C.d (encInts p.skip), C.d (encInts p.dbl), C.d (D.int IntKind.i64 (0 : Int)), C.d ((D.agg [D.int IntKind.i64 zIss.vol, D.int IntKind.i64 zIss.num, D.int IntKind.i64 zIss.last, D.int IntKind.i64 zIss.day, D.int IntKind.i64 zIss.st, D.int IntKind.i64 zIss.item]).slice [])]), (8, T.val (D.int IntKind.i64 (0 : Int))), (9, T.val (D.int IntKind.i64 (untilR p d2))), (10, T.box [C.d (D.int IntKind.i64 (1 : Int)), C.d (D.int IntKind.i64 p.start), C.d (D.int IntKind.i64 p.every), C.d (D.int IntKind.i64 p.per), C.d (D.int IntKind.i64 p.first), C.d (encInts p.skip), C.d (encInts p.dbl), C.d (D.int IntKind.i64 (untilR p d2)), C.d ((D.agg [D.int IntKind.i64 zIss.vol, D.int IntKind.i64 zIss.num, D.int IntKind.i64 zIss.last, D.int IntKind.i64 zIss.day, D.int IntKind.i64 zIss.st, D.int IntKind.i64 zIss.item]).slice (List.map encIss (listR p (0 : Int) (untilR p d2))))]), (11, T.val (D.int IntKind.i64 (0 : Int))), (12, T.junk), (13, T.junk), (14, T.junk), (15, T.junk), (29, T.val (D.bool (!smallS { rcd := (0 : Int), pat := p, next := (0 : Int), iss := [] } || patR p != (0 : Int) || decide (d2 < d1)))), (48, T.val (D.bool false)), (59, T.val (D.bool (decide ((128 : Int) < untilR p d2)))), (80, T.val (D.bool false))] by
          refine contS.cut 0 #[true, true, true, true, true, true, true, true, true, true, true, true, true, true, true, true] [(0, T.val (D.agg [D.int IntKind.i64 p.start, D.int IntKind.i64 p.every, D.int IntKind.i64 p.per, D.int IntKind.i64 p.first, encInts p.skip, encInts p.dbl])), (1, T.val (D.int IntKind.i64 d1)), (2, T.val (D.int IntKind.i64 d2)), (3, T.box [C.d (D.int IntKind.i64 p.start), C.d (D.int IntKind.i64 p.every), C.d (D.int IntKind.i64 p.per), C.d (D.int IntKind.i64 p.first), C.d (encInts p.skip), C.d (encInts p.dbl)]), (6, T.val (D.bool false)), (7, T.box [C.d (D.int IntKind.i64 (1 : Int)), C.d (D.int IntKind.i64 p.start), C.d (D.int IntKind.i64 p.every), C.d (D.int IntKind.i64 p.per), C.d (D.int IntKind.i64 p.first), C.d (encInts p.skip), C.d (encInts p.dbl), C.d (D.int IntKind.i64 (0 : Int)), C.d ((D.agg [D.int IntKind.i64 zIss.vol, D.int IntKind.i64 zIss.num, D.int IntKind.i64 zIss.last, D.int IntKind.i64 zIss.day, D.int IntKind.i64 zIss.st, D.int IntKind.i64 zIss.item]).slice [])]), (8, T.val (D.int IntKind.i64 (0 : Int))), (9, T.val (D.int IntKind.i64 (untilR p d2))), (10, T.box [C.d (D.int IntKind.i64 (1 : Int)), C.d (D.int IntKind.i64 p.start), C.d (D.int IntKind.i64 p.every), C.d (D.int IntKind.i64 p.per), C.d (D.int IntKind.i64 p.first), C.d (encInts p.skip), C.d (encInts p.dbl), C.d (D.int IntKind.i64 (untilR p d2)), C.d ((D.agg [D.int IntKind.i64 zIss.vol, D.int IntKind.i64 zIss.num, D.int IntKind.i64 zIss.last, D.int IntKind.i64 zIss.day, D.int IntKind.i64 zIss.st, D.int IntKind.i64 zIss.item]).slice (List.map encIss (listR p (0 : Int) (untilR p d2))))]), (11, T.val (D.int IntKind.i64 (0 : Int))), (29, T.val (D.bool (!smallS { rcd := (0 : Int), pat := p, next := (0 : Int), iss := [] } || patR p != (0 : Int) || decide (d2 < d1)))), (48, T.val (D.bool false)), (59, T.val (D.bool (decide ((128 : Int) < untilR p d2)))), (80, T.val (D.bool false))] ?_ fun h_4_5_7_8_12_13_ => ?_
          · skip
            refine coreS.nil (by kernel_rfl) ?_
            simpa [encPat_eq, encSer_eq, encIsss_eq, encIss_eq, patR_1, patR_2, serR_1, serR_2] using hnext
          refine contS.cut 3 #[true, true, true, true, true, true, true, true, true, true, true, true, true, false, false, false] [(0, T.val (D.agg [D.int IntKind.i64 p.start, D.int IntKind.i64 p.every, D.int IntKind.i64 p.per, D.int IntKind.i64 p.first, encInts p.skip, encInts p.dbl])), (1, T.val (D.int IntKind.i64 d1)), (2, T.val (D.int IntKind.i64 d2)), (3, T.box [C.d (D.int IntKind.i64 p.start), C.d (D.int IntKind.i64 p.every), C.d (D.int IntKind.i64 p.per), C.d (D.int IntKind.i64 p.first), C.d (encInts p.skip), C.d (encInts p.dbl)]), (6, T.val (D.bool false)), (7, T.box [C.d (D.int IntKind.i64 (1 : Int)), C.d (D.int IntKind.i64 p.start), C.d (D.int IntKind.i64 p.every), C.d (D.int IntKind.i64 p.per), C.d (D.int IntKind.i64 p.first), C.d (encInts p.skip), C.d (encInts p.dbl), C.d (D.int IntKind.i64 (0 : Int)), C.d ((D.agg [D.int IntKind.i64 zIss.vol, D.int IntKind.i64 zIss.num, D.int IntKind.i64 zIss.last, D.int IntKind.i64 zIss.day, D.int IntKind.i64 zIss.st, D.int IntKind.i64 zIss.item]).slice [])]), (8, T.val (D.int IntKind.i64 (0 : Int))), (9, T.val (D.int IntKind.i64 (untilR p d2))), (10, T.box [C.d (D.int IntKind.i64 (1 : Int)), C.d (D.int IntKind.i64 p.start), C.d (D.int IntKind.i64 p.every), C.d (D.int IntKind.i64 p.per), C.d (D.int IntKind.i64 p.first), C.d (encInts p.skip), C.d (encInts p.dbl), C.d (D.int IntKind.i64 (untilR p d2)), C.d ((D.agg [D.int IntKind.i64 zIss.vol, D.int IntKind.i64 zIss.num, D.int IntKind.i64 zIss.last, D.int IntKind.i64 zIss.day, D.int IntKind.i64 zIss.st, D.int IntKind.i64 zIss.item]).slice (List.map encIss (listR p (0 : Int) (untilR p d2))))]), (11, T.val (D.int IntKind.i64 (0 : Int))), (29, T.val (D.bool (!smallS { rcd := (0 : Int), pat := p, next := (0 : Int), iss := [] } || patR p != (0 : Int) || decide (d2 < d1)))), (48, T.val (D.bool false)), (59, T.val (D.bool (decide ((128 : Int) < untilR p d2)))), (76, T.val (D.bool false)), (77, T.opt [true] (T.val (D.agg [D.int IntKind.i64 (1 : Int), D.int IntKind.i64 p.start, D.int IntKind.i64 p.every, D.int IntKind.i64 p.per, D.int IntKind.i64 p.first, encInts p.skip, encInts p.dbl, D.int IntKind.i64 (untilR p d2), (D.agg [D.int IntKind.i64 zIss.vol, D.int IntKind.i64 zIss.num, D.int IntKind.i64 zIss.last, D.int IntKind.i64 zIss.day, D.int IntKind.i64 zIss.st, D.int IntKind.i64 zIss.item]).slice (List.map encIss (listR p (0 : Int) (untilR p d2)))])))] ?_ fun h_4_5_7_8_12 => ?_
          · skip
            refine coreS.step E_ok [13] (by kernel_rfl) (by simp) ?_
            refine anyS.cons rfl ?_ ?_
            · skip
              simp [encPat_eq, encSer_eq, encIsss_eq, encIss_eq, patR_1, patR_2, serR_1, serR_2, h48, he, he1, htwo, hright]
              repeat refine ⟨by first | omega | assumption | (simp only [maxLen]; omega) | (intros; omega) | decide, ?_⟩
              refine meet.of (serial_Right ⟨1, p, untilR p d2, listR p 0 (untilR p d2)⟩ (by omega)) ?_
              simp [encPat_eq, encSer_eq, encIsss_eq, encIss_eq, patR_1, patR_2, serR_1, serR_2, h48, he, he1, htwo, hright]
              repeat refine ⟨by first | omega | assumption | (simp only [maxLen]; omega) | (intros; omega) | decide, ?_⟩
              refine contS.now (f' := 2) (l' := #[true, true, true, true, true, true, true, true, true, true, true, true, true, true, false, false]) ?_ rfl (by kernel_rfl)
              refine coreS.dry E_ok (by kernel_rfl) 14 rfl rfl (by kernel_rfl) (by kernel_rfl) ?_
              simp [encPat_eq, encSer_eq, encIsss_eq, encIss_eq, patR_1, patR_2, serR_1, serR_2, h48, he, he1, htwo, hright]
              repeat refine ⟨by first | omega | assumption | (simp only [maxLen]; omega) | (intros; omega) | decide, ?_⟩
              refine contS.now (f' := 1) (l' := #[true, true, true, true, true, true, true, true, true, true, true, true, true, true, true, false]) ?_ rfl (by kernel_rfl)
              refine coreS.dry E_ok (by kernel_rfl) 15 rfl rfl (by kernel_rfl) (by kernel_rfl) ?_
              simp [encPat_eq, encSer_eq, encIsss_eq, encIss_eq, patR_1, patR_2, serR_1, serR_2, h48, he, he1, htwo, hright]
              repeat refine ⟨by first | omega | assumption | (simp only [maxLen]; omega) | (intros; omega) | decide, ?_⟩
              exact contS.mk (by simp [Weak, TW, T.plain, encPat_eq, encSer_eq, encIsss_eq, encIss_eq, patR_1, patR_2, serR_1, serR_2]) h_4_5_7_8_12_13_ (by kernel_rfl)
            exact anyS.nil
          refine contS.cut 4 #[true, true, true, true, true, true, true, true, true, true, true, true, false, false, false, false] [(0, T.val (D.agg [D.int IntKind.i64 p.start, D.int IntKind.i64 p.every, D.int IntKind.i64 p.per, D.int IntKind.i64 p.first, encInts p.skip, encInts p.dbl])), (1, T.val (D.int IntKind.i64 d1)), (2, T.val (D.int IntKind.i64 d2)), (3, T.box [C.d (D.int IntKind.i64 p.start), C.d (D.int IntKind.i64 p.every), C.d (D.int IntKind.i64 p.per), C.d (D.int IntKind.i64 p.first), C.d (encInts p.skip), C.d (encInts p.dbl)]), (6, T.val (D.bool false)), (7, T.box [C.d (D.int IntKind.i64 (1 : Int)), C.d (D.int IntKind.i64 p.start), C.d (D.int IntKind.i64 p.every), C.d (D.int IntKind.i64 p.per), C.d (D.int IntKind.i64 p.first), C.d (encInts p.skip), C.d (encInts p.dbl), C.d (D.int IntKind.i64 (0 : Int)), C.d ((D.agg [D.int IntKind.i64 zIss.vol, D.int IntKind.i64 zIss.num, D.int IntKind.i64 zIss.last, D.int IntKind.i64 zIss.day, D.int IntKind.i64 zIss.st, D.int IntKind.i64 zIss.item]).slice [])]), (8, T.val (D.int IntKind.i64 (0 : Int))), (9, T.val (D.int IntKind.i64 (untilR p d2))), (10, T.box [C.d (D.int IntKind.i64 (1 : Int)), C.d (D.int IntKind.i64 p.start), C.d (D.int IntKind.i64 p.every), C.d (D.int IntKind.i64 p.per), C.d (D.int IntKind.i64 p.first), C.d (encInts p.skip), C.d (encInts p.dbl), C.d (D.int IntKind.i64 (untilR p d2)), C.d ((D.agg [D.int IntKind.i64 zIss.vol, D.int IntKind.i64 zIss.num, D.int IntKind.i64 zIss.last, D.int IntKind.i64 zIss.day, D.int IntKind.i64 zIss.st, D.int IntKind.i64 zIss.item]).slice (List.map encIss (listR p (0 : Int) (untilR p d2))))]), (11, T.val (D.int IntKind.i64 (0 : Int))), (29, T.val (D.bool (!smallS { rcd := (0 : Int), pat := p, next := (0 : Int), iss := [] } || patR p != (0 : Int) || decide (d2 < d1)))), (48, T.val (D.bool false)), (59, T.val (D.bool (decide ((128 : Int) < untilR p d2)))), (76, T.val (D.bool false))] ?_ fun h_4_5_7_8 => ?_
          · skip
            refine coreS.step E_ok [12] (by kernel_rfl) (by simp) ?_
            refine anyS.cons rfl ?_ ?_
            · skip
              simp [encPat_eq, encSer_eq, encIsss_eq, encIss_eq, patR_1, patR_2, serR_1, serR_2, h48, he, he1, htwo, hright]
              repeat refine ⟨by first | omega | assumption | (simp only [maxLen]; omega) | (intros; omega) | decide, ?_⟩
              exact contS.mk (by simp [Weak, TW, T.plain, encPat_eq, encSer_eq, encIsss_eq, encIss_eq, patR_1, patR_2, serR_1, serR_2]) h_4_5_7_8_12 (by kernel_rfl)
            exact anyS.nil
          refine contS.cut 8 #[true, true, true, true, true, true, true, true, false, false, false, false, false, false, false, false] [(0, T.val (D.agg [D.int IntKind.i64 p.start, D.int IntKind.i64 p.every, D.int IntKind.i64 p.per, D.int IntKind.i64 p.first, encInts p.skip, encInts p.dbl])), (1, T.val (D.int IntKind.i64 d1)), (2, T.val (D.int IntKind.i64 d2)), (3, T.box [C.d (D.int IntKind.i64 p.start), C.d (D.int IntKind.i64 p.every), C.d (D.int IntKind.i64 p.per), C.d (D.int IntKind.i64 p.first), C.d (encInts p.skip), C.d (encInts p.dbl)]), (6, T.val (D.bool false)), (7, T.box [C.d (D.int IntKind.i64 (1 : Int)), C.d (D.int IntKind.i64 p.start), C.d (D.int IntKind.i64 p.every), C.d (D.int IntKind.i64 p.per), C.d (D.int IntKind.i64 p.first), C.d (encInts p.skip), C.d (encInts p.dbl), C.d (D.int IntKind.i64 (0 : Int)), C.d ((D.agg [D.int IntKind.i64 zIss.vol, D.int IntKind.i64 zIss.num, D.int IntKind.i64 zIss.last, D.int IntKind.i64 zIss.day, D.int IntKind.i64 zIss.st, D.int IntKind.i64 zIss.item]).slice [])]), (8, T.val (D.int IntKind.i64 (0 : Int))), (9, T.val (D.int IntKind.i64 (untilR p d2))), (10, T.box [C.d (D.int IntKind.i64 (1 : Int)), C.d (D.int IntKind.i64 p.start), C.d (D.int IntKind.i64 p.every), C.d (D.int IntKind.i64 p.per), C.d (D.int IntKind.i64 p.first), C.d (encInts p.skip), C.d (encInts p.dbl), C.d (D.int IntKind.i64 (untilR p d2)), C.d ((D.agg [D.int IntKind.i64 zIss.vol, D.int IntKind.i64 zIss.num, D.int IntKind.i64 zIss.last, D.int IntKind.i64 zIss.day, D.int IntKind.i64 zIss.st, D.int IntKind.i64 zIss.item]).slice (List.map encIss (listR p (0 : Int) (untilR p d2))))]), (11, T.val (D.int IntKind.i64 (0 : Int))), (29, T.val (D.bool (!smallS { rcd := (0 : Int), pat := p, next := (0 : Int), iss := [] } || patR p != (0 : Int) || decide (d2 < d1)))), (48, T.val (D.bool false)), (59, T.val (D.bool (decide ((128 : Int) < untilR p d2)))), (67, T.val (D.bool false)), (69, T.opt [true] (T.val ((D.agg [D.int IntKind.i64 zIss.vol, D.int IntKind.i64 zIss.num, D.int IntKind.i64 zIss.last, D.int IntKind.i64 zIss.day, D.int IntKind.i64 zIss.st, D.int IntKind.i64 zIss.item]).slice (List.map encIss (listR p (0 : Int) (untilR p d2)))))), (72, T.opt [true] (T.val ((D.agg [D.int IntKind.i64 zIss.vol, D.int IntKind.i64 zIss.num, D.int IntKind.i64 zIss.last, D.int IntKind.i64 zIss.day, D.int IntKind.i64 zIss.st, D.int IntKind.i64 zIss.item]).slice (List.map encIss (listR p (0 : Int) (untilR p d2))))))] ?_ fun h_4_5_7 => ?_
          · skip
            refine coreS.step E_ok [8] (by kernel_rfl) (by simp) ?_
            refine anyS.cons rfl ?_ ?_
            · skip
              simp [encPat_eq, encSer_eq, encIsss_eq, encIss_eq, patR_1, patR_2, serR_1, serR_2, h48, he, he1, htwo, hright]
              repeat refine ⟨by first | omega | assumption | (simp only [maxLen]; omega) | (intros; omega) | decide, ?_⟩
              refine meet.of (ref36_Same (listR p 0 (untilR p d2)) (listR p 0 (untilR p d2)) (by omega)) ?_
              simp [encPat_eq, encSer_eq, encIsss_eq, encIss_eq, patR_1, patR_2, serR_1, serR_2, h48, he, he1, htwo, hright]
              repeat refine ⟨by first | omega | assumption | (simp only [maxLen]; omega) | (intros; omega) | decide, ?_⟩
              refine contS.now (f' := 7) (l' := #[true, true, true, true, true, true, true, true, true, false, false, false, false, false, false, false]) ?_ rfl (by kernel_rfl)
              refine coreS.dry E_ok (by kernel_rfl) 9 rfl rfl (by kernel_rfl) (by kernel_rfl) ?_
              simp [encPat_eq, encSer_eq, encIsss_eq, encIss_eq, patR_1, patR_2, serR_1, serR_2, h48, he, he1, htwo, hright]
              repeat refine ⟨by first | omega | assumption | (simp only [maxLen]; omega) | (intros; omega) | decide, ?_⟩
              refine contS.now (f' := 6) (l' := #[true, true, true, true, true, true, true, true, true, true, false, false, false, false, false, false]) ?_ rfl (by kernel_rfl)
              refine coreS.dry E_ok (by kernel_rfl) 10 rfl rfl (by kernel_rfl) (by kernel_rfl) ?_
              simp [encPat_eq, encSer_eq, encIsss_eq, encIss_eq, patR_1, patR_2, serR_1, serR_2, h48, he, he1, htwo, hright]
              repeat refine ⟨by first | omega | assumption | (simp only [maxLen]; omega) | (intros; omega) | decide, ?_⟩
              refine contS.now (f' := 5) (l' := #[true, true, true, true, true, true, true, true, true, true, true, false, false, false, false, false]) ?_ rfl (by kernel_rfl)
              refine coreS.dry E_ok (by kernel_rfl) 11 rfl rfl (by kernel_rfl) (by kernel_rfl) ?_
              simp [encPat_eq, encSer_eq, encIsss_eq, encIss_eq, patR_1, patR_2, serR_1, serR_2, h48, he, he1, htwo, hright]
              repeat refine ⟨by first | omega | assumption | (simp only [maxLen]; omega) | (intros; omega) | decide, ?_⟩
              exact contS.mk (by simp [Weak, TW, T.plain, encPat_eq, encSer_eq, encIsss_eq, encIss_eq, patR_1, patR_2, serR_1, serR_2]) h_4_5_7_8 (by kernel_rfl)
            exact anyS.nil
          refine contS.cut 9 #[true, true, true, true, true, true, true, false, false, false, false, false, false, false, false, false] [(0, T.val (D.agg [D.int IntKind.i64 p.start, D.int IntKind.i64 p.every, D.int IntKind.i64 p.per, D.int IntKind.i64 p.first, encInts p.skip, encInts p.dbl])), (1, T.val (D.int IntKind.i64 d1)), (2, T.val (D.int IntKind.i64 d2)), (3, T.box [C.d (D.int IntKind.i64 p.start), C.d (D.int IntKind.i64 p.every), C.d (D.int IntKind.i64 p.per), C.d (D.int IntKind.i64 p.first), C.d (encInts p.skip), C.d (encInts p.dbl)]), (6, T.val (D.bool false)), (7, T.box [C.d (D.int IntKind.i64 (1 : Int)), C.d (D.int IntKind.i64 p.start), C.d (D.int IntKind.i64 p.every), C.d (D.int IntKind.i64 p.per), C.d (D.int IntKind.i64 p.first), C.d (encInts p.skip), C.d (encInts p.dbl), C.d (D.int IntKind.i64 (0 : Int)), C.d ((D.agg [D.int IntKind.i64 zIss.vol, D.int IntKind.i64 zIss.num, D.int IntKind.i64 zIss.last, D.int IntKind.i64 zIss.day, D.int IntKind.i64 zIss.st, D.int IntKind.i64 zIss.item]).slice [])]), (8, T.val (D.int IntKind.i64 (0 : Int))), (9, T.val (D.int IntKind.i64 (untilR p d2))), (10, T.box [C.d (D.int IntKind.i64 (1 : Int)), C.d (D.int IntKind.i64 p.start), C.d (D.int IntKind.i64 p.every), C.d (D.int IntKind.i64 p.per), C.d (D.int IntKind.i64 p.first), C.d (encInts p.skip), C.d (encInts p.dbl), C.d (D.int IntKind.i64 (untilR p d2)), C.d ((D.agg [D.int IntKind.i64 zIss.vol, D.int IntKind.i64 zIss.num, D.int IntKind.i64 zIss.last, D.int IntKind.i64 zIss.day, D.int IntKind.i64 zIss.st, D.int IntKind.i64 zIss.item]).slice (List.map encIss (listR p (0 : Int) (untilR p d2))))]), (11, T.val (D.int IntKind.i64 (0 : Int))), (29, T.val (D.bool (!smallS { rcd := (0 : Int), pat := p, next := (0 : Int), iss := [] } || patR p != (0 : Int) || decide (d2 < d1)))), (48, T.val (D.bool false)), (59, T.val (D.bool (decide ((128 : Int) < untilR p d2)))), (67, T.val (D.bool false)), (69, T.opt [true] (T.val ((D.agg [D.int IntKind.i64 zIss.vol, D.int IntKind.i64 zIss.num, D.int IntKind.i64 zIss.last, D.int IntKind.i64 zIss.day, D.int IntKind.i64 zIss.st, D.int IntKind.i64 zIss.item]).slice (List.map encIss (listR p (0 : Int) (untilR p d2)))))), (70, T.opt [true] (T.val (D.agg [D.int IntKind.i64 p.start, D.int IntKind.i64 p.every, D.int IntKind.i64 p.per, D.int IntKind.i64 p.first, encInts p.skip, encInts p.dbl]))), (71, T.opt [true] (T.val (D.int IntKind.i64 (untilR p d2))))] ?_ fun h_4_5 => ?_
          · skip
            refine coreS.step E_ok [7] (by kernel_rfl) (by simp) ?_
            refine anyS.cons rfl ?_ ?_
            · skip
              simp [encPat_eq, encSer_eq, encIsss_eq, encIss_eq, patR_1, patR_2, serR_1, serR_2, h48, he, he1, htwo, hright]
              repeat refine ⟨by first | omega | assumption | (simp only [maxLen]; omega) | (intros; omega) | decide, ?_⟩
              refine meet.of (pattern_List p 0 (untilR p d2) hp) ?_
              simp [encPat_eq, encSer_eq, encIsss_eq, encIss_eq, patR_1, patR_2, serR_1, serR_2, h48, he, he1, htwo, hright]
              repeat refine ⟨by first | omega | assumption | (simp only [maxLen]; omega) | (intros; omega) | decide, ?_⟩
              exact contS.mk (by simp [Weak, TW, T.plain, encPat_eq, encSer_eq, encIsss_eq, encIss_eq, patR_1, patR_2, serR_1, serR_2]) h_4_5_7 (by kernel_rfl)
            exact anyS.nil
          refine contS.cut 9 #[true, true, true, true, false, true, true, true, false, false, false, false, false, false, false, false] [(0, T.val (D.agg [D.int IntKind.i64 p.start, D.int IntKind.i64 p.every, D.int IntKind.i64 p.per, D.int IntKind.i64 p.first, encInts p.skip, encInts p.dbl])), (1, T.val (D.int IntKind.i64 d1)), (2, T.val (D.int IntKind.i64 d2)), (3, T.box [C.d (D.int IntKind.i64 p.start), C.d (D.int IntKind.i64 p.every), C.d (D.int IntKind.i64 p.per), C.d (D.int IntKind.i64 p.first), C.d (encInts p.skip), C.d (encInts p.dbl)]), (6, T.val (D.bool false)), (7, T.box [C.d (D.int IntKind.i64 (1 : Int)), C.d (D.int IntKind.i64 p.start), C.d (D.int IntKind.i64 p.every), C.d (D.int IntKind.i64 p.per), C.d (D.int IntKind.i64 p.first), C.d (encInts p.skip), C.d (encInts p.dbl), C.d (D.int IntKind.i64 (0 : Int)), C.d ((D.agg [D.int IntKind.i64 zIss.vol, D.int IntKind.i64 zIss.num, D.int IntKind.i64 zIss.last, D.int IntKind.i64 zIss.day, D.int IntKind.i64 zIss.st, D.int IntKind.i64 zIss.item]).slice [])]), (8, T.val (D.int IntKind.i64 (0 : Int))), (9, T.val (D.int IntKind.i64 (untilR p d2))), (10, T.box [C.d (D.int IntKind.i64 (1 : Int)), C.d (D.int IntKind.i64 p.start), C.d (D.int IntKind.i64 p.every), C.d (D.int IntKind.i64 p.per), C.d (D.int IntKind.i64 p.first), C.d (encInts p.skip), C.d (encInts p.dbl), C.d (D.int IntKind.i64 (untilR p d2)), C.d ((D.agg [D.int IntKind.i64 zIss.vol, D.int IntKind.i64 zIss.num, D.int IntKind.i64 zIss.last, D.int IntKind.i64 zIss.day, D.int IntKind.i64 zIss.st, D.int IntKind.i64 zIss.item]).slice (List.map encIss (listR p (0 : Int) (untilR p d2))))]), (11, T.val (D.int IntKind.i64 (0 : Int))), (29, T.val (D.bool (!smallS { rcd := (0 : Int), pat := p, next := (0 : Int), iss := [] } || patR p != (0 : Int) || decide (d2 < d1)))), (48, T.val (D.bool false)), (59, T.val (D.bool (decide ((128 : Int) < untilR p d2)))), (67, T.val (D.bool false)), (68, T.opt [true] (T.ptr 10 8)), (72, T.opt [true] (T.val ((D.agg [D.int IntKind.i64 zIss.vol, D.int IntKind.i64 zIss.num, D.int IntKind.i64 zIss.last, D.int IntKind.i64 zIss.day, D.int IntKind.i64 zIss.st, D.int IntKind.i64 zIss.item]).slice (List.map encIss (listR p (0 : Int) (untilR p d2))))))] ?_ fun h_5_7 => ?_
          · skip
            refine coreS.step E_ok [4] (by kernel_rfl) (by simp) ?_
            refine anyS.cons rfl ?_ ?_
            · skip
              simp [encPat_eq, encSer_eq, encIsss_eq, encIss_eq, patR_1, patR_2, serR_1, serR_2, h48, he, he1, htwo, hright]
              repeat refine ⟨by first | omega | assumption | (simp only [maxLen]; omega) | (intros; omega) | decide, ?_⟩
              exact contS.mk (by simp [Weak, TW, T.plain, encPat_eq, encSer_eq, encIsss_eq, encIss_eq, patR_1, patR_2, serR_1, serR_2]) h_4_5_7 (by kernel_rfl)
            exact anyS.nil
          refine contS.cut 10 #[true, true, true, true, true, false, true, false, false, false, false, false, false, false, false, false] [(0, T.val (D.agg [D.int IntKind.i64 p.start, D.int IntKind.i64 p.every, D.int IntKind.i64 p.per, D.int IntKind.i64 p.first, encInts p.skip, encInts p.dbl])), (1, T.val (D.int IntKind.i64 d1)), (2, T.val (D.int IntKind.i64 d2)), (3, T.box [C.d (D.int IntKind.i64 p.start), C.d (D.int IntKind.i64 p.every), C.d (D.int IntKind.i64 p.per), C.d (D.int IntKind.i64 p.first), C.d (encInts p.skip), C.d (encInts p.dbl)]), (6, T.val (D.bool false)), (7, T.box [C.d (D.int IntKind.i64 (1 : Int)), C.d (D.int IntKind.i64 p.start), C.d (D.int IntKind.i64 p.every), C.d (D.int IntKind.i64 p.per), C.d (D.int IntKind.i64 p.first), C.d (encInts p.skip), C.d (encInts p.dbl), C.d (D.int IntKind.i64 (0 : Int)), C.d ((D.agg [D.int IntKind.i64 zIss.vol, D.int IntKind.i64 zIss.num, D.int IntKind.i64 zIss.last, D.int IntKind.i64 zIss.day, D.int IntKind.i64 zIss.st, D.int IntKind.i64 zIss.item]).slice [])]), (8, T.val (D.int IntKind.i64 (0 : Int))), (9, T.val (D.int IntKind.i64 (untilR p d2))), (10, T.box [C.d (D.int IntKind.i64 (1 : Int)), C.d (D.int IntKind.i64 p.start), C.d (D.int IntKind.i64 p.every), C.d (D.int IntKind.i64 p.per), C.d (D.int IntKind.i64 p.first), C.d (encInts p.skip), C.d (encInts p.dbl), C.d (D.int IntKind.i64 (untilR p d2)), C.d ((D.agg [D.int IntKind.i64 zIss.vol, D.int IntKind.i64 zIss.num, D.int IntKind.i64 zIss.last, D.int IntKind.i64 zIss.day, D.int IntKind.i64 zIss.st, D.int IntKind.i64 zIss.item]).slice (List.map encIss (listR p (0 : Int) (untilR p d2))))]), (11, T.val (D.int IntKind.i64 (0 : Int))), (29, T.val (D.bool (!smallS { rcd := (0 : Int), pat := p, next := (0 : Int), iss := [] } || patR p != (0 : Int) || decide (d2 < d1)))), (48, T.val (D.bool false)), (59, T.val (D.bool (decide ((128 : Int) < untilR p d2)))), (67, T.val (D.bool false)), (69, T.opt [true] (T.val ((D.agg [D.int IntKind.i64 zIss.vol, D.int IntKind.i64 zIss.num, D.int IntKind.i64 zIss.last, D.int IntKind.i64 zIss.day, D.int IntKind.i64 zIss.st, D.int IntKind.i64 zIss.item]).slice (List.map encIss (listR p (0 : Int) (untilR p d2)))))), (71, T.opt [true] (T.val (D.int IntKind.i64 (untilR p d2))))] ?_ fun h_4 => ?_
          · skip
            refine coreS.step E_ok [5] (by kernel_rfl) (by simp) ?_
            refine anyS.cons rfl ?_ ?_
            · skip
              simp [encPat_eq, encSer_eq, encIsss_eq, encIss_eq, patR_1, patR_2, serR_1, serR_2, h48, he, he1, htwo, hright]
              repeat refine ⟨by first | omega | assumption | (simp only [maxLen]; omega) | (intros; omega) | decide, ?_⟩
              exact contS.mk (by simp [Weak, TW, T.plain, encPat_eq, encSer_eq, encIsss_eq, encIss_eq, patR_1, patR_2, serR_1, serR_2]) h_4_5 (by kernel_rfl)
            exact anyS.nil
          refine contS.cut 10 #[true, true, true, true, false, true, true, false, false, false, false, false, false, false, false, false] [(0, T.val (D.agg [D.int IntKind.i64 p.start, D.int IntKind.i64 p.every, D.int IntKind.i64 p.per, D.int IntKind.i64 p.first, encInts p.skip, encInts p.dbl])), (1, T.val (D.int IntKind.i64 d1)), (2, T.val (D.int IntKind.i64 d2)), (3, T.box [C.d (D.int IntKind.i64 p.start), C.d (D.int IntKind.i64 p.every), C.d (D.int IntKind.i64 p.per), C.d (D.int IntKind.i64 p.first), C.d (encInts p.skip), C.d (encInts p.dbl)]), (6, T.val (D.bool false)), (7, T.box [C.d (D.int IntKind.i64 (1 : Int)), C.d (D.int IntKind.i64 p.start), C.d (D.int IntKind.i64 p.every), C.d (D.int IntKind.i64 p.per), C.d (D.int IntKind.i64 p.first), C.d (encInts p.skip), C.d (encInts p.dbl), C.d (D.int IntKind.i64 (0 : Int)), C.d ((D.agg [D.int IntKind.i64 zIss.vol, D.int IntKind.i64 zIss.num, D.int IntKind.i64 zIss.last, D.int IntKind.i64 zIss.day, D.int IntKind.i64 zIss.st, D.int IntKind.i64 zIss.item]).slice [])]), (8, T.val (D.int IntKind.i64 (0 : Int))), (9, T.val (D.int IntKind.i64 (untilR p d2))), (10, T.box [C.d (D.int IntKind.i64 (1 : Int)), C.d (D.int IntKind.i64 p.start), C.d (D.int IntKind.i64 p.every), C.d (D.int IntKind.i64 p.per), C.d (D.int IntKind.i64 p.first), C.d (encInts p.skip), C.d (encInts p.dbl), C.d (D.int IntKind.i64 (untilR p d2)), C.d ((D.agg [D.int IntKind.i64 zIss.vol, D.int IntKind.i64 zIss.num, D.int IntKind.i64 zIss.last, D.int IntKind.i64 zIss.day, D.int IntKind.i64 zIss.st, D.int IntKind.i64 zIss.item]).slice (List.map encIss (listR p (0 : Int) (untilR p d2))))]), (11, T.val (D.int IntKind.i64 (0 : Int))), (29, T.val (D.bool (!smallS { rcd := (0 : Int), pat := p, next := (0 : Int), iss := [] } || patR p != (0 : Int) || decide (d2 < d1)))), (48, T.val (D.bool false)), (59, T.val (D.bool (decide ((128 : Int) < untilR p d2)))), (67, T.val (D.bool false)), (68, T.opt [true] (T.ptr 10 8)), (70, T.opt [true] (T.val (D.agg [D.int IntKind.i64 p.start, D.int IntKind.i64 p.every, D.int IntKind.i64 p.per, D.int IntKind.i64 p.first, encInts p.skip, encInts p.dbl]))), (71, T.opt [true] (T.val (D.int IntKind.i64 (untilR p d2))))] ?_ fun h_5 => ?_
          · skip
            refine coreS.step E_ok [4, 7] (by kernel_rfl) (by simp) ?_
            refine anyS.cons rfl ?_ ?_
            · skip
              simp [encPat_eq, encSer_eq, encIsss_eq, encIss_eq, patR_1, patR_2, serR_1, serR_2, h48, he, he1, htwo, hright]
              repeat refine ⟨by first | omega | assumption | (simp only [maxLen]; omega) | (intros; omega) | decide, ?_⟩
              exact contS.mk (by simp [Weak, TW, T.plain, encPat_eq, encSer_eq, encIsss_eq, encIss_eq, patR_1, patR_2, serR_1, serR_2]) h_4_5 (by kernel_rfl)
            refine anyS.cons rfl ?_ ?_
            · skip
              simp [encPat_eq, encSer_eq, encIsss_eq, encIss_eq, patR_1, patR_2, serR_1, serR_2, h48, he, he1, htwo, hright]
              repeat refine ⟨by first | omega | assumption | (simp only [maxLen]; omega) | (intros; omega) | decide, ?_⟩
              refine meet.of (pattern_List p 0 (untilR p d2) hp) ?_
              simp [encPat_eq, encSer_eq, encIsss_eq, encIss_eq, patR_1, patR_2, serR_1, serR_2, h48, he, he1, htwo, hright]
              repeat refine ⟨by first | omega | assumption | (simp only [maxLen]; omega) | (intros; omega) | decide, ?_⟩
              exact contS.mk (by simp [Weak, TW, T.plain, encPat_eq, encSer_eq, encIsss_eq, encIss_eq, patR_1, patR_2, serR_1, serR_2]) h_5_7 (by kernel_rfl)
            exact anyS.nil
          refine contS.cut 11 #[true, true, true, true, false, false, true, false, false, false, false, false, false, false, false, false] [(0, T.val (D.agg [D.int IntKind.i64 p.start, D.int IntKind.i64 p.every, D.int IntKind.i64 p.per, D.int IntKind.i64 p.first, encInts p.skip, encInts p.dbl])), (1, T.val (D.int IntKind.i64 d1)), (2, T.val (D.int IntKind.i64 d2)), (3, T.box [C.d (D.int IntKind.i64 p.start), C.d (D.int IntKind.i64 p.every), C.d (D.int IntKind.i64 p.per), C.d (D.int IntKind.i64 p.first), C.d (encInts p.skip), C.d (encInts p.dbl)]), (6, T.val (D.bool false)), (7, T.box [C.d (D.int IntKind.i64 (1 : Int)), C.d (D.int IntKind.i64 p.start), C.d (D.int IntKind.i64 p.every), C.d (D.int IntKind.i64 p.per), C.d (D.int IntKind.i64 p.first), C.d (encInts p.skip), C.d (encInts p.dbl), C.d (D.int IntKind.i64 (0 : Int)), C.d ((D.agg [D.int IntKind.i64 zIss.vol, D.int IntKind.i64 zIss.num, D.int IntKind.i64 zIss.last, D.int IntKind.i64 zIss.day, D.int IntKind.i64 zIss.st, D.int IntKind.i64 zIss.item]).slice [])]), (8, T.val (D.int IntKind.i64 (0 : Int))), (9, T.val (D.int IntKind.i64 (untilR p d2))), (10, T.box [C.d (D.int IntKind.i64 (1 : Int)), C.d (D.int IntKind.i64 p.start), C.d (D.int IntKind.i64 p.every), C.d (D.int IntKind.i64 p.per), C.d (D.int IntKind.i64 p.first), C.d (encInts p.skip), C.d (encInts p.dbl), C.d (D.int IntKind.i64 (untilR p d2)), C.d ((D.agg [D.int IntKind.i64 zIss.vol, D.int IntKind.i64 zIss.num, D.int IntKind.i64 zIss.last, D.int IntKind.i64 zIss.day, D.int IntKind.i64 zIss.st, D.int IntKind.i64 zIss.item]).slice (List.map encIss (listR p (0 : Int) (untilR p d2))))]), (11, T.val (D.int IntKind.i64 (0 : Int))), (29, T.val (D.bool (!smallS { rcd := (0 : Int), pat := p, next := (0 : Int), iss := [] } || patR p != (0 : Int) || decide (d2 < d1)))), (48, T.val (D.bool false)), (59, T.val (D.bool (decide ((128 : Int) < untilR p d2)))), (67, T.val (D.bool false)), (68, T.opt [true] (T.ptr 10 8)), (71, T.opt [true] (T.val (D.int IntKind.i64 (untilR p d2))))] ?_ fun h_ => ?_
          · skip
            refine coreS.step E_ok [4, 5] (by kernel_rfl) (by simp) ?_
            refine anyS.cons rfl ?_ ?_
            · skip
              simp [encPat_eq, encSer_eq, encIsss_eq, encIss_eq, patR_1, patR_2, serR_1, serR_2, h48, he, he1, htwo, hright]
              repeat refine ⟨by first | omega | assumption | (simp only [maxLen]; omega) | (intros; omega) | decide, ?_⟩
              exact contS.mk (by simp [Weak, TW, T.plain, encPat_eq, encSer_eq, encIsss_eq, encIss_eq, patR_1, patR_2, serR_1, serR_2]) h_4 (by kernel_rfl)
            refine anyS.cons rfl ?_ ?_
            · skip
              simp [encPat_eq, encSer_eq, encIsss_eq, encIss_eq, patR_1, patR_2, serR_1, serR_2, h48, he, he1, htwo, hright]
              repeat refine ⟨by first | omega | assumption | (simp only [maxLen]; omega) | (intros; omega) | decide, ?_⟩
              exact contS.mk (by simp [Weak, TW, T.plain, encPat_eq, encSer_eq, encIsss_eq, encIss_eq, patR_1, patR_2, serR_1, serR_2]) h_5 (by kernel_rfl)
            exact anyS.nil
          refine contS.now (f' := 16) (l' := #[false, false, false, false, false, false, false, false, false, false, false, false, false, false, false, false]) ?_ rfl (by kernel_rfl)
          refine coreS.dry E_ok (by kernel_rfl) 0 rfl rfl (by kernel_rfl) (by kernel_rfl) ?_
          simp [encPat_eq, encSer_eq, encIsss_eq, encIss_eq, patR_1, patR_2, serR_1, serR_2, h48, he, he1, htwo, hright]
          repeat refine ⟨by first | omega | assumption | (simp only [maxLen]; omega) | (intros; omega) | decide, ?_⟩
          refine contS.now (f' := 15) (l' := #[true, false, false, false, false, false, false, false, false, false, false, false, false, false, false, false]) ?_ rfl (by kernel_rfl)
          refine coreS.dry E_ok (by kernel_rfl) 1 rfl rfl (by kernel_rfl) (by kernel_rfl) ?_
          simp [encPat_eq, encSer_eq, encIsss_eq, encIss_eq, patR_1, patR_2, serR_1, serR_2, h48, he, he1, htwo, hright]
          repeat refine ⟨by first | omega | assumption | (simp only [maxLen]; omega) | (intros; omega) | decide, ?_⟩
          refine contS.now (f' := 14) (l' := #[true, true, false, false, false, false, false, false, false, false, false, false, false, false, false, false]) ?_ rfl (by kernel_rfl)
          refine coreS.dry E_ok (by kernel_rfl) 2 rfl rfl (by kernel_rfl) (by kernel_rfl) ?_
          simp [encPat_eq, encSer_eq, encIsss_eq, encIss_eq, patR_1, patR_2, serR_1, serR_2, h48, he, he1, htwo, hright]
          repeat refine ⟨by first | omega | assumption | (simp only [maxLen]; omega) | (intros; omega) | decide, ?_⟩
          refine contS.now (f' := 13) (l' := #[true, true, true, false, false, false, false, false, false, false, false, false, false, false, false, false]) ?_ rfl (by kernel_rfl)
          refine coreS.dry E_ok (by kernel_rfl) 3 rfl rfl (by kernel_rfl) (by kernel_rfl) ?_
          simp [encPat_eq, encSer_eq, encIsss_eq, encIss_eq, patR_1, patR_2, serR_1, serR_2, h48, he, he1, htwo, hright]
          repeat refine ⟨by first | omega | assumption | (simp only [maxLen]; omega) | (intros; omega) | decide, ?_⟩
          refine contS.now (f' := 12) (l' := #[true, true, true, true, false, false, false, false, false, false, false, false, false, false, false, false]) ?_ rfl (by kernel_rfl)
          refine coreS.dry E_ok (by kernel_rfl) 6 rfl rfl (by kernel_rfl) (by kernel_rfl) ?_
          simp [encPat_eq, encSer_eq, encIsss_eq, encIss_eq, patR_1, patR_2, serR_1, serR_2, h48, he, he1, htwo, hright]
          repeat refine ⟨by first | omega | assumption | (simp only [maxLen]; omega) | (intros; omega) | decide, ?_⟩
          exact contS.mk (by simp [Weak, TW, T.plain, encPat_eq, encSer_eq, encIsss_eq, encIss_eq, patR_1, patR_2, serR_1, serR_2]) h_ (by kernel_rfl)
        refine hK _ ?_
        clear hK K
        refine AWp.cond rfl (fun h80 => ?_) (fun h80 => ?_)
        · exact absurd h80 (by simp)
        · try simp at h80
          refine AWp.skip ?_
          repeat first | refine thenN ?_ | refine thenX ?_ | refine thenR ?_ | refine blockN ?_ | refine blockR ?_ | refine blockX ?_ | refine blockM rfl ?_
          -- region 12
          refine AWp.rseq E_ok [0, 1, 2, 3, 6, 7, 8, 9, 10, 11, 12, 13, 14, 15, 29, 48, 59, 80] fun K hK => ?_
          simp [encPat_eq, encSer_eq, encIsss_eq, encIss_eq, patR_1, patR_2, serR_1, serR_2, h48, he, he1, htwo, hright, h80]
          repeat refine ⟨by first | omega | assumption | (simp only [maxLen]; omega) | (intros; omega) | decide, ?_⟩
          refine meet.of (serial_Expect ⟨1, p, 0, []⟩ d1 hp (by simp) (by simp)) ?_
          simp [encPat_eq, encSer_eq, encIsss_eq, encIss_eq, patR_1, patR_2, serR_1, serR_2, h48, he, he1, htwo, hright, h80]
          repeat refine ⟨by first | omega | assumption | (simp only [maxLen]; omega) | (intros; omega) | decide, ?_⟩
          refine hK _ ?_
          clear hK K
          -- region 13
          refine AWp.rseq E_ok [0, 1, 2, 3, 6, 7, 8, 9, 10, 11, 12, 13, 14, 15, 29, 48, 59, 80] fun K hK => ?_
          simp [encPat_eq, encSer_eq, encIsss_eq, encIss_eq, patR_1, patR_2, serR_1, serR_2, h48, he, he1, htwo, hright, h80]
          repeat refine ⟨by first | omega | assumption | (simp only [maxLen]; omega) | (intros; omega) | decide, ?_⟩
          refine meet.of (serial_Expect ⟨1, p, untilR p d1, listR p 0 (untilR p d1)⟩ d2 hp (by simp only; omega) (by omega)) ?_
          simp [encPat_eq, encSer_eq, encIsss_eq, encIss_eq, patR_1, patR_2, serR_1, serR_2, h48, he, he1, htwo, hright, h80]
          repeat refine ⟨by first | omega | assumption | (simp only [maxLen]; omega) | (intros; omega) | decide, ?_⟩
          refine hK _ ?_
          clear hK K
          -- region 14
          refine AWp.rseq E_ok [0, 1, 2, 3, 6, 7, 8, 9, 10, 11, 12, 13, 14, 15, 29, 48, 59, 80] fun K hK => ?_
          simp [encPat_eq, encSer_eq, encIsss_eq, encIss_eq, patR_1, patR_2, serR_1, serR_2, h48, he, he1, htwo, hright, h80]
          repeat refine ⟨by first | omega | assumption | (simp only [maxLen]; omega) | (intros; omega) | decide, ?_⟩
          refine meet.of (ref37_Same ⟨1, p, untilR p d2, listR p 0 (untilR p d2)⟩ ⟨1, p, untilR p d2, listR p 0 (untilR p d2)⟩ (by simp only; omega) (by simp only; omega) (by simp only; omega)) ?_
          simp [encPat_eq, encSer_eq, encIsss_eq, encIss_eq, patR_1, patR_2, serR_1, serR_2, h48, he, he1, htwo, hright, h80]
          repeat refine ⟨by first | omega | assumption | (simp only [maxLen]; omega) | (intros; omega) | decide, ?_⟩
          refine meet.of (law37_alive) ?_
          simp [encPat_eq, encSer_eq, encIsss_eq, encIss_eq, patR_1, patR_2, serR_1, serR_2, h48, he, he1, htwo, hright, h80]
          repeat refine ⟨by first | omega | assumption | (simp only [maxLen]; omega) | (intros; omega) | decide, ?_⟩
          refine hK _ ?_
          clear hK K
          refine AWp.ret ?_
          repeat first | refine thenN ?_ | refine thenX ?_ | refine thenR ?_ | refine blockN ?_ | refine blockR ?_ | refine blockX ?_ | refine blockM rfl ?_
          simp [RetOk, RV]
end Go.Proofs.Ytceapemkefaicaa
