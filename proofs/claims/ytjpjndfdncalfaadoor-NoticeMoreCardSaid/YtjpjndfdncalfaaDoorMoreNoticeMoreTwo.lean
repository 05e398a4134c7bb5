/-
  What the functions compute that the statement reaches: contracts, and the plain laws between them. Conditions stand at each theorem.
-/
import Derived.Test.YtjpjndfdncalfaaDoorMoreNoticeMoreOne
set_option linter.unusedVariables false
set_option linter.unusedSimpArgs false
set_option maxRecDepth 100000
set_option linter.unusedSimpArgs false
set_option linter.unusedVariables false
namespace Go.Proofs.YtjpjndfdncalfaaDoor
open Go Ab Pl
@[simp] noncomputable def zt8x1 (c : Circ) : D := (D.agg [D.int IntKind.i64 c.today, encItms c.items, encPatrs c.patrons, encLoans c.loans, encHlds c.holds, encCharges c.charges, encRules c.rules, D.int IntKind.i64 c.cals.c0.week, encInts c.cals.c0.closed, D.int IntKind.i64 c.cals.c1.week, encInts c.cals.c1.closed, D.int IntKind.i64 c.cals.c2.week, encInts c.cals.c2.closed, D.int IntKind.i64 c.cals.c3.week, encInts c.cals.c3.closed, encMoves c.moves, D.int IntKind.i64 c.nh, D.int IntKind.i64 c.nc, D.bool c.loc])
@[simp] noncomputable def zt8x2 : D := (D.agg [D.int IntKind.i64 (0 : Int), D.int IntKind.i64 (0 : Int), D.int IntKind.i64 (0 : Int), D.int IntKind.i64 (0 : Int)])
@[simp] noncomputable def zt8x3 (c : Circ) : List C := [C.d (D.int IntKind.i64 c.today), C.d (encItms c.items), C.d (encPatrs c.patrons), C.d (encLoans c.loans), C.d (encHlds c.holds), C.d (encCharges c.charges), C.d (encRules c.rules), C.d (D.int IntKind.i64 c.cals.c0.week), C.d (encInts c.cals.c0.closed), C.d (D.int IntKind.i64 c.cals.c1.week), C.d (encInts c.cals.c1.closed), C.d (D.int IntKind.i64 c.cals.c2.week), C.d (encInts c.cals.c2.closed), C.d (D.int IntKind.i64 c.cals.c3.week), C.d (encInts c.cals.c3.closed), C.d (encMoves c.moves), C.d (D.int IntKind.i64 c.nh), C.d (D.int IntKind.i64 c.nc), C.d (D.bool c.loc)]
@[simp] noncomputable def zt8x4 : D := (D.agg [D.int IntKind.i64 0, D.int IntKind.i64 0, D.int IntKind.i64 0, D.int IntKind.i64 0])
@[simp] noncomputable def zt8x5 : Array Bool := #[false, false, false, false, false, false, false, false, false, false, false, false, false, false, false, false]
set_option maxHeartbeats 4000000 in
theorem law35_NoticeMore (c : Circ) (a m : Int) : ACalls E.P 8 [encCirc c, .int .i64 a, .int .i64 m] (.d (.bool true)) := by
  refine ACalls.intro E_ok Tryd.func8 rfl rfl Tryd.ntmps8 Tryd.results8 (Nat.le_of_ble_eq_true rfl) fun hok base S0 w0 => ?_
  -- region 0
  refine AWp.rseq E_ok [0, 1, 2, 3, 6, 7, 8, 9, 10, 11, 12, 13, 15, 23, 33, 39, 55, 60, 78] fun K hK => ?_
  simp [encCirc_eq, encNotes_eq, noteL_map, encNote_eq, zn]
  repeat refine ⟨by first | omega | assumption | (simp only [maxLen]; omega) | (intros; omega) | decide, ?_⟩
  refine hK _ ?_
  clear hK K
  refine AWp.seq ?_
  -- region 1
  refine AWp.rseq E_ok [0, 1, 2, 3, 6, 7, 8, 9, 10, 11, 12, 13, 15, 23, 33, 39, 55, 60, 78] fun K hK => ?_
  simp [encCirc_eq, encNotes_eq, noteL_map, encNote_eq, zn]
  repeat refine ⟨by first | omega | assumption | (simp only [maxLen]; omega) | (intros; omega) | decide, ?_⟩
  refine meet.of (law35_alive) ?_
  simp [encCirc_eq, encNotes_eq, noteL_map, encNote_eq, zn]
  repeat refine ⟨by first | omega | assumption | (simp only [maxLen]; omega) | (intros; omega) | decide, ?_⟩
  refine hK _ ?_
  clear hK K
  refine AWp.cond rfl (fun h15 => ?_) (fun h15 => ?_)
  · exact absurd h15 (by simp)
  · try simp at h15
    refine AWp.skip ?_
    repeat first | refine thenN ?_ | refine thenX ?_ | refine thenR ?_ | refine blockN ?_ | refine blockR ?_ | refine blockX ?_ | refine blockM rfl ?_
    refine AWp.seq ?_
    -- region 3
    refine AWp.rseq E_ok [0, 1, 2, 3, 6, 7, 8, 9, 10, 11, 12, 13, 15, 23, 33, 39, 55, 60, 78] fun K hK => ?_
    simp [encCirc_eq, encNotes_eq, noteL_map, encNote_eq, zn, h15]
    repeat refine ⟨by first | omega | assumption | (simp only [maxLen]; omega) | (intros; omega) | decide, ?_⟩
    refine meet.of (ref35_Right c) ?_
    simp [encCirc_eq, encNotes_eq, noteL_map, encNote_eq, zn, h15]
    repeat refine ⟨by first | omega | assumption | (simp only [maxLen]; omega) | (intros; omega) | decide, ?_⟩
    refine hK _ ?_
    clear hK K
    refine AWp.cond rfl (fun h23 => ?_) (fun h23 => ?_)
    · try simp at h23
      -- region 4
      refine AWp.rseq E_ok [0, 1, 2, 3, 6, 7, 8, 9, 10, 11, 12, 13, 15, 23, 33, 39, 55, 60, 78] fun K hK => ?_
      simp [encCirc_eq, encNotes_eq, noteL_map, encNote_eq, zn, h15]
      repeat refine ⟨by first | omega | assumption | (simp only [maxLen]; omega) | (intros; omega) | decide, ?_⟩
      refine hK _ ?_
      clear hK K
      refine AWp.ret ?_
      repeat first | refine thenN ?_ | refine thenX ?_ | refine thenR ?_ | refine blockN ?_ | refine blockR ?_ | refine blockX ?_ | refine blockM rfl ?_
      simp [RetOk, RV]
    · try simp at h23
      have h23' : rigC c = true ∧ a ≤ m := by simpa using h23
      have hP := rigC_ok h23'.1
      have hla := dueN_len hP a
      have hlm := dueN_len hP m
      have hsub := due_more (c := c) h23'.2
      have hps := (dueN_srt c m).ps
      obtain ⟨L, hL⟩ : ∃ z, z = dueN c a := ⟨_, rfl⟩
      obtain ⟨M, hM⟩ : ∃ z, z = dueN c m := ⟨_, rfl⟩
      rw [← hL] at hla hsub
      rw [← hM] at hlm hsub hps
      have cL := notice_Due_d c a hP.h1 hP.h2
      have cM := notice_Due_d c m hP.h1 hP.h2
      rw [← hL] at cL
      rw [← hM] at cM
      refine AWp.skip ?_
      repeat first | refine thenN ?_ | refine thenX ?_ | refine thenR ?_ | refine blockN ?_ | refine blockR ?_ | refine blockX ?_ | refine blockM rfl ?_
      -- region 5, every order
      refine AWp.rseqS E_ok mixed [0, 1, 2, 3, 6, 7, 8, 9, 10, 11, 12, 13, 15, 23, 33, 39, 55, 60, 78] (n := 8) (l := #[false, false, false, false, false, false, false, false]) rfl (by kernel_rfl) fun K hK => ?_
      suffices hnext : K [(0, T.val (zt8x1 c)), (1, T.val (D.int IntKind.i64 a)), (2, T.val (D.int IntKind.i64 m)), (3, T.box (zt8x3 c)), (6, T.val (D.bool false)), (7, T.val ((zt8x2).slice (List.map encNote L))), (8, T.val ((zt8x2).slice (List.map encNote M))), (9, T.junk), (10, T.junk), (11, T.junk), (12, T.junk), (13, T.junk), (15, T.val (D.bool false)), (23, T.val (D.bool (!rigC c || decide (m < a)))), (33, T.junk), (39, T.junk), (55, T.junk), (60, T.junk), (78, T.junk)] by
        refine contS.cut 0 #[true, true, true, true, true, true, true, true] [(0, T.val (zt8x1 c)), (1, T.val (D.int IntKind.i64 a)), (2, T.val (D.int IntKind.i64 m)), (3, T.box (zt8x3 c)), (6, T.val (D.bool false)), (7, T.val ((zt8x2).slice (List.map encNote L))), (8, T.val ((zt8x2).slice (List.map encNote M))), (15, T.val (D.bool false)), (23, T.val (D.bool (!rigC c || decide (m < a))))] ?_ fun h_0_2_3_5_ => ?_
        · skip
          refine coreS.nil (by kernel_rfl) ?_
          simpa [encCirc_eq, encNotes_eq, noteL_map, encNote_eq, zn] using hnext
        refine contS.cut 3 #[true, true, true, true, true, false, false, false] [(0, T.val (zt8x1 c)), (1, T.val (D.int IntKind.i64 a)), (2, T.val (D.int IntKind.i64 m)), (3, T.box (zt8x3 c)), (6, T.val (D.bool false)), (15, T.val (D.bool false)), (23, T.val (D.bool (!rigC c || decide (m < a)))), (26, T.val ((zt8x2).slice (List.map encNote L))), (27, T.val (zt8x1 c)), (28, T.val (D.int IntKind.i64 m))] ?_ fun h_0_2_3 => ?_
        · skip
          refine coreS.step E_ok [5] (by kernel_rfl) (by simp) ?_
          refine anyS.cons rfl ?_ ?_
          · skip
            simp [encCirc_eq, encNotes_eq, noteL_map, encNote_eq, zn, h15]
            repeat refine ⟨by first | omega | assumption | (simp only [maxLen]; omega) | (intros; omega) | decide, ?_⟩
            refine meet.of (cM) ?_
            simp [encCirc_eq, encNotes_eq, noteL_map, encNote_eq, zn, h15]
            repeat refine ⟨by first | omega | assumption | (simp only [maxLen]; omega) | (intros; omega) | decide, ?_⟩
            refine contS.now (f' := 2) (l' := #[true, true, true, true, true, true, false, false]) ?_ rfl (by kernel_rfl)
            refine coreS.dry E_ok (by kernel_rfl) 6 rfl rfl (by kernel_rfl) (by kernel_rfl) ?_
            simp [encCirc_eq, encNotes_eq, noteL_map, encNote_eq, zn, h15]
            repeat refine ⟨by first | omega | assumption | (simp only [maxLen]; omega) | (intros; omega) | decide, ?_⟩
            refine contS.now (f' := 1) (l' := #[true, true, true, true, true, true, true, false]) ?_ rfl (by kernel_rfl)
            refine coreS.dry E_ok (by kernel_rfl) 7 rfl rfl (by kernel_rfl) (by kernel_rfl) ?_
            simp [encCirc_eq, encNotes_eq, noteL_map, encNote_eq, zn, h15]
            repeat refine ⟨by first | omega | assumption | (simp only [maxLen]; omega) | (intros; omega) | decide, ?_⟩
            exact contS.mk (by simp [Weak, TW, T.plain, encCirc_eq, encNotes_eq, noteL_map, encNote_eq, zn]) h_0_2_3_5_ (by kernel_rfl)
          exact anyS.nil
        refine contS.cut 4 #[true, true, true, false, true, false, false, false] [(0, T.val (zt8x1 c)), (1, T.val (D.int IntKind.i64 a)), (2, T.val (D.int IntKind.i64 m)), (3, T.box (zt8x3 c)), (6, T.val (D.bool false)), (15, T.val (D.bool false)), (23, T.val (D.bool (!rigC c || decide (m < a)))), (26, T.val ((zt8x2).slice (List.map encNote L))), (28, T.val (D.int IntKind.i64 m))] ?_ fun h_0_2 => ?_
        · skip
          refine coreS.step E_ok [3] (by kernel_rfl) (by simp) ?_
          refine anyS.cons rfl ?_ ?_
          · skip
            simp [encCirc_eq, encNotes_eq, noteL_map, encNote_eq, zn, h15]
            repeat refine ⟨by first | omega | assumption | (simp only [maxLen]; omega) | (intros; omega) | decide, ?_⟩
            exact contS.mk (by simp [Weak, TW, T.plain, encCirc_eq, encNotes_eq, noteL_map, encNote_eq, zn]) h_0_2_3 (by kernel_rfl)
          exact anyS.nil
        refine contS.cut 4 #[true, true, false, true, true, false, false, false] [(0, T.val (zt8x1 c)), (1, T.val (D.int IntKind.i64 a)), (2, T.val (D.int IntKind.i64 m)), (3, T.box (zt8x3 c)), (6, T.val (D.bool false)), (15, T.val (D.bool false)), (23, T.val (D.bool (!rigC c || decide (m < a)))), (24, T.val (zt8x1 c)), (25, T.val (D.int IntKind.i64 a)), (27, T.val (zt8x1 c)), (28, T.val (D.int IntKind.i64 m))] ?_ fun h_0_3 => ?_
        · skip
          refine coreS.step E_ok [2] (by kernel_rfl) (by simp) ?_
          refine anyS.cons rfl ?_ ?_
          · skip
            simp [encCirc_eq, encNotes_eq, noteL_map, encNote_eq, zn, h15]
            repeat refine ⟨by first | omega | assumption | (simp only [maxLen]; omega) | (intros; omega) | decide, ?_⟩
            refine meet.of (cL) ?_
            simp [encCirc_eq, encNotes_eq, noteL_map, encNote_eq, zn, h15]
            repeat refine ⟨by first | omega | assumption | (simp only [maxLen]; omega) | (intros; omega) | decide, ?_⟩
            exact contS.mk (by simp [Weak, TW, T.plain, encCirc_eq, encNotes_eq, noteL_map, encNote_eq, zn]) h_0_2_3 (by kernel_rfl)
          exact anyS.nil
        refine contS.cut 5 #[true, true, false, false, true, false, false, false] [(0, T.val (zt8x1 c)), (1, T.val (D.int IntKind.i64 a)), (2, T.val (D.int IntKind.i64 m)), (3, T.box (zt8x3 c)), (6, T.val (D.bool false)), (15, T.val (D.bool false)), (23, T.val (D.bool (!rigC c || decide (m < a)))), (24, T.val (zt8x1 c)), (25, T.val (D.int IntKind.i64 a)), (28, T.val (D.int IntKind.i64 m))] ?_ fun h_0 => ?_
        · skip
          refine coreS.step E_ok [2, 3] (by kernel_rfl) (by simp) ?_
          refine anyS.cons rfl ?_ ?_
          · skip
            simp [encCirc_eq, encNotes_eq, noteL_map, encNote_eq, zn, h15]
            repeat refine ⟨by first | omega | assumption | (simp only [maxLen]; omega) | (intros; omega) | decide, ?_⟩
            refine meet.of (cL) ?_
            simp [encCirc_eq, encNotes_eq, noteL_map, encNote_eq, zn, h15]
            repeat refine ⟨by first | omega | assumption | (simp only [maxLen]; omega) | (intros; omega) | decide, ?_⟩
            exact contS.mk (by simp [Weak, TW, T.plain, encCirc_eq, encNotes_eq, noteL_map, encNote_eq, zn]) h_0_2 (by kernel_rfl)
          refine anyS.cons rfl ?_ ?_
          · skip
            simp [encCirc_eq, encNotes_eq, noteL_map, encNote_eq, zn, h15]
            repeat refine ⟨by first | omega | assumption | (simp only [maxLen]; omega) | (intros; omega) | decide, ?_⟩
            exact contS.mk (by simp [Weak, TW, T.plain, encCirc_eq, encNotes_eq, noteL_map, encNote_eq, zn]) h_0_3 (by kernel_rfl)
          exact anyS.nil
        refine contS.cut 5 #[false, true, false, true, true, false, false, false] [(0, T.val (zt8x1 c)), (1, T.val (D.int IntKind.i64 a)), (2, T.val (D.int IntKind.i64 m)), (3, T.box (zt8x3 c)), (6, T.val (D.bool false)), (15, T.val (D.bool false)), (23, T.val (D.bool (!rigC c || decide (m < a)))), (25, T.val (D.int IntKind.i64 a)), (27, T.val (zt8x1 c)), (28, T.val (D.int IntKind.i64 m))] ?_ fun h_3 => ?_
        · skip
          refine coreS.step E_ok [0] (by kernel_rfl) (by simp) ?_
          refine anyS.cons rfl ?_ ?_
          · skip
            simp [encCirc_eq, encNotes_eq, noteL_map, encNote_eq, zn, h15]
            repeat refine ⟨by first | omega | assumption | (simp only [maxLen]; omega) | (intros; omega) | decide, ?_⟩
            exact contS.mk (by simp [Weak, TW, T.plain, encCirc_eq, encNotes_eq, noteL_map, encNote_eq, zn]) h_0_3 (by kernel_rfl)
          exact anyS.nil
        refine contS.cut 6 #[false, true, false, false, true, false, false, false] [(0, T.val (zt8x1 c)), (1, T.val (D.int IntKind.i64 a)), (2, T.val (D.int IntKind.i64 m)), (3, T.box (zt8x3 c)), (6, T.val (D.bool false)), (15, T.val (D.bool false)), (23, T.val (D.bool (!rigC c || decide (m < a)))), (25, T.val (D.int IntKind.i64 a)), (28, T.val (D.int IntKind.i64 m))] ?_ fun h_ => ?_
        · skip
          refine coreS.step E_ok [0, 3] (by kernel_rfl) (by simp) ?_
          refine anyS.cons rfl ?_ ?_
          · skip
            simp [encCirc_eq, encNotes_eq, noteL_map, encNote_eq, zn, h15]
            repeat refine ⟨by first | omega | assumption | (simp only [maxLen]; omega) | (intros; omega) | decide, ?_⟩
            exact contS.mk (by simp [Weak, TW, T.plain, encCirc_eq, encNotes_eq, noteL_map, encNote_eq, zn]) h_0 (by kernel_rfl)
          refine anyS.cons rfl ?_ ?_
          · skip
            simp [encCirc_eq, encNotes_eq, noteL_map, encNote_eq, zn, h15]
            repeat refine ⟨by first | omega | assumption | (simp only [maxLen]; omega) | (intros; omega) | decide, ?_⟩
            exact contS.mk (by simp [Weak, TW, T.plain, encCirc_eq, encNotes_eq, noteL_map, encNote_eq, zn]) h_3 (by kernel_rfl)
          exact anyS.nil
        refine contS.now (f' := 8) (l' := #[false, false, false, false, false, false, false, false]) ?_ rfl (by kernel_rfl)
        refine coreS.dry E_ok (by kernel_rfl) 1 rfl rfl (by kernel_rfl) (by kernel_rfl) ?_
        simp [encCirc_eq, encNotes_eq, noteL_map, encNote_eq, zn, h15]
        repeat refine ⟨by first | omega | assumption | (simp only [maxLen]; omega) | (intros; omega) | decide, ?_⟩
        refine contS.now (f' := 7) (l' := #[false, true, false, false, false, false, false, false]) ?_ rfl (by kernel_rfl)
        refine coreS.dry E_ok (by kernel_rfl) 4 rfl rfl (by kernel_rfl) (by kernel_rfl) ?_
        simp [encCirc_eq, encNotes_eq, noteL_map, encNote_eq, zn, h15]
        repeat refine ⟨by first | omega | assumption | (simp only [maxLen]; omega) | (intros; omega) | decide, ?_⟩
        exact contS.mk (by simp [Weak, TW, T.plain, encCirc_eq, encNotes_eq, noteL_map, encNote_eq, zn]) h_ (by kernel_rfl)
      refine hK _ ?_
      clear hK K
      refine AWp.seq ?_
      -- region 6
      refine AWp.rseq E_ok [0, 1, 2, 3, 6, 7, 8, 9, 10, 11, 12, 13, 15, 23, 33, 39, 55, 60, 78] fun K hK => ?_
      simp [encCirc_eq, encNotes_eq, noteL_map, encNote_eq, zn, h15]
      repeat refine ⟨by first | omega | assumption | (simp only [maxLen]; omega) | (intros; omega) | decide, ?_⟩
      refine hK _ ?_
      clear hK K
      refine AWp.block ?_
      refine AWp.loop (ι := { k : Nat // k ≤ 200 }) (fun x => match x with | ⟨k, hk1⟩ => [(0, T.val (zt8x1 c)), (1, T.val (D.int IntKind.i64 a)), (2, T.val (D.int IntKind.i64 m)), (7, T.val ((zt8x4).slice (List.map encNote L))), (8, T.val ((zt8x4).slice (List.map encNote M))), (9, T.val (.int .i64 (k : Int))), (10, T.junk), (11, T.junk)]) (fun x => match x with | ⟨k, hk1⟩ => 200 - k) ⟨0, by omega⟩ ?_ ?_
      · simp [Weak, TW, encCirc_eq, encNotes_eq, noteL_map, encNote_eq, zn]
      rintro ⟨k, hk1⟩
      simp only
      try simp only at hk1
      refine AWp.seq ?_
      -- region 7
      refine AWp.rseq E_ok [0, 1, 2, 3, 6, 7, 8, 9, 10, 11, 12, 13, 15, 23, 33, 39, 55, 60, 78] fun K hK => ?_
      simp [encCirc_eq, encNotes_eq, noteL_map, encNote_eq, zn, h15]
      repeat refine ⟨by first | omega | assumption | (simp only [maxLen]; omega) | (intros; omega) | decide, ?_⟩
      refine hK _ ?_
      clear hK K
      refine AWp.cond rfl (fun h33 => ?_) (fun h33 => ?_)
      · try simp at h33
        obtain ⟨x, hx⟩ : ∃ x, L[k]? = some x := ⟨_, List.getElem?_eq_getElem (by omega)⟩
        have ex : (L.map encNote)[k]? = some (.agg [.int .i64 x.kind, .int .i64 x.patron, .int .i64 x.item, .int .i64 x.day]) := by simp [hx, encNote_eq]
        have hxm := anF_mem (hsub.1 x (List.mem_of_getElem? hx))
        have wk : IntKind.i64.wrap ((k : Int) + 1) = (k : Int) + 1 := wrap_i64 (by omega) (by omega)
        refine AWp.skip ?_
        repeat first | refine thenN ?_ | refine thenX ?_ | refine thenR ?_ | refine blockN ?_ | refine blockR ?_ | refine blockX ?_ | refine blockM rfl ?_
        refine AWp.seq ?_
        refine AWp.block ?_
        -- region 9
        refine AWp.rseq E_ok [0, 1, 2, 3, 6, 7, 8, 9, 10, 11, 12, 13, 15, 23, 33, 39, 55, 60, 78] fun K hK => ?_
        simp [encCirc_eq, encNotes_eq, noteL_map, encNote_eq, zn, h15, ex, wk]
        repeat refine ⟨by first | omega | assumption | (simp only [maxLen]; omega) | (intros; omega) | decide, ?_⟩
        refine hK _ ?_
        clear hK K
        refine AWp.seq ?_
        -- region 10
        refine AWp.rseq E_ok [0, 1, 2, 3, 6, 7, 8, 9, 10, 11, 12, 13, 15, 23, 33, 39, 55, 60, 78] fun K hK => ?_
        simp [encCirc_eq, encNotes_eq, noteL_map, encNote_eq, zn, h15, ex, wk]
        repeat refine ⟨by first | omega | assumption | (simp only [maxLen]; omega) | (intros; omega) | decide, ?_⟩
        refine hK _ ?_
        clear hK K
        refine AWp.block ?_
        refine AWp.range (l := M) (F := anF x) (tot := anF x false M) (fun k2 y => match y with | f => True) (fun k2 y => match y with | f => [(0, T.val (zt8x1 c)), (1, T.val (D.int IntKind.i64 a)), (2, T.val (D.int IntKind.i64 m)), (7, T.val ((zt8x4).slice (List.map encNote L))), (8, T.val ((zt8x4).slice (List.map encNote M))), (9, T.val (D.int IntKind.i64 ↑k)), (10, T.val (.bool f)), (11, T.val (.int .i64 k2))]) (false) ?_ rfl ?_ ?_
        · simp [Weak, TW, encCirc_eq, encNotes_eq, noteL_map, encNote_eq, zn]
        · first | exact trivial | (simp; omega) | simp
        rintro k2 f hk2 hs2 hi2
        try simp only at hi2
        refine AWp.seq ?_
        -- region 11
        refine AWp.rseq E_ok [0, 1, 2, 3, 6, 7, 8, 9, 10, 11, 12, 13, 15, 23, 33, 39, 55, 60, 78] fun K hK => ?_
        simp [encCirc_eq, encNotes_eq, noteL_map, encNote_eq, zn, h15, ex, wk]
        repeat refine ⟨by first | omega | assumption | (simp only [maxLen]; omega) | (intros; omega) | decide, ?_⟩
        refine hK _ ?_
        clear hK K
        refine AWp.cond rfl (fun h39 => ?_) (fun h39 => ?_)
        · try simp at h39
          obtain ⟨x2, hx2, hxx2, hd2⟩ := at_indexG (l := M) h39
          rw [hd2] at hs2
          have e2 : (if f = true then true else decide (x = x2)) = (f || (x.kind == x2.kind && (x.patron == x2.patron && (x.item == x2.item && x.day == x2.day)))) := by cases f <;> (rw [Bool.eq_iff_iff]; simp [note_eq, and_assoc])
          rw [anF, e2] at hs2
          refine AWp.skip ?_
          repeat first | refine thenN ?_ | refine thenX ?_ | refine thenR ?_ | refine blockN ?_ | refine blockR ?_ | refine blockX ?_ | refine blockM rfl ?_
          refine AWp.seq ?_
          refine AWp.block ?_
          -- region 13, every order
          refine AWp.rendS E_ok mixed [0, 1, 2, 3, 6, 7, 8, 9, 10, 11, 12, 13, 15, 23, 33, 39, 55, 60, 78] (n := 13) (l := #[false, false, false, false, false, false, false, false, false, false, false, false, false]) rfl (by kernel_rfl) fun K hK => ?_
          suffices hnext : K [(0, T.val (zt8x1 c)), (1, T.val (D.int IntKind.i64 a)), (2, T.val (D.int IntKind.i64 m)), (3, T.junk), (6, T.junk), (7, T.val ((zt8x2).slice (List.map encNote L))), (8, T.val ((zt8x2).slice (List.map encNote M))), (9, T.val (D.int IntKind.i64 ↑k)), (10, T.val (D.bool (f || x.kind == x2.kind && (x.patron == x2.patron && (x.item == x2.item && x.day == x2.day))))), (11, T.val (D.int IntKind.i64 ↑k2)), (12, T.junk), (13, T.junk), (15, T.junk), (23, T.junk), (33, T.junk), (39, T.val (D.bool true)), (55, T.junk), (60, T.junk), (78, T.junk)] by
            refine contS.cut 0 #[true, true, true, true, true, true, true, true, true, true, true, true, true] [(0, T.val (zt8x1 c)), (1, T.val (D.int IntKind.i64 a)), (2, T.val (D.int IntKind.i64 m)), (7, T.val ((zt8x2).slice (List.map encNote L))), (8, T.val ((zt8x2).slice (List.map encNote M))), (9, T.val (D.int IntKind.i64 ↑k)), (10, T.val (D.bool (f || x.kind == x2.kind && (x.patron == x2.patron && (x.item == x2.item && x.day == x2.day))))), (11, T.val (D.int IntKind.i64 ↑k2)), (39, T.val (D.bool true))] ?_ fun h_5_9_ => ?_
            · skip
              refine coreS.nil (by kernel_rfl) ?_
              simpa [encCirc_eq, encNotes_eq, noteL_map, encNote_eq, zn] using hnext
            refine contS.cut 4 #[true, true, true, true, true, true, true, true, true, false, false, false, false] [(0, T.val (zt8x1 c)), (1, T.val (D.int IntKind.i64 a)), (2, T.val (D.int IntKind.i64 m)), (7, T.val ((zt8x2).slice (List.map encNote L))), (8, T.val ((zt8x2).slice (List.map encNote M))), (9, T.val (D.int IntKind.i64 ↑k)), (10, T.val (D.bool f)), (11, T.val (D.int IntKind.i64 ↑k2)), (39, T.val (D.bool true)), (43, T.val (D.bool f)), (47, T.opt [!f] (T.val (D.agg [D.int IntKind.i64 x.kind, D.int IntKind.i64 x.patron, D.int IntKind.i64 x.item, D.int IntKind.i64 x.day]))), (50, T.opt [!f] (T.val (D.ref [D.int IntKind.i64 x2.kind, D.int IntKind.i64 x2.patron, D.int IntKind.i64 x2.item, D.int IntKind.i64 x2.day])))] ?_ fun h_5 => ?_
            · skip
              refine coreS.step E_ok [9] (by kernel_rfl) (by simp) ?_
              refine anyS.cons rfl ?_ ?_
              · skip
                simp [encCirc_eq, encNotes_eq, noteL_map, encNote_eq, zn, h15, ex, wk, h39, hx2, hxx2]
                repeat refine ⟨by first | omega | assumption | (simp only [maxLen]; omega) | (intros; omega) | decide, ?_⟩
                refine contS.now (f' := 3) (l' := #[true, true, true, true, true, true, true, true, true, true, false, false, false]) ?_ rfl (by kernel_rfl)
                refine coreS.dry E_ok (by kernel_rfl) 10 rfl rfl (by kernel_rfl) (by kernel_rfl) ?_
                simp [encCirc_eq, encNotes_eq, noteL_map, encNote_eq, zn, h15, ex, wk, h39, hx2, hxx2]
                repeat refine ⟨by first | omega | assumption | (simp only [maxLen]; omega) | (intros; omega) | decide, ?_⟩
                refine contS.now (f' := 2) (l' := #[true, true, true, true, true, true, true, true, true, true, true, false, false]) ?_ rfl (by kernel_rfl)
                refine coreS.dry E_ok (by kernel_rfl) 11 rfl rfl (by kernel_rfl) (by kernel_rfl) ?_
                simp [encCirc_eq, encNotes_eq, noteL_map, encNote_eq, zn, h15, ex, wk, h39, hx2, hxx2]
                repeat refine ⟨by first | omega | assumption | (simp only [maxLen]; omega) | (intros; omega) | decide, ?_⟩
                refine contS.now (f' := 1) (l' := #[true, true, true, true, true, true, true, true, true, true, true, true, false]) ?_ rfl (by kernel_rfl)
                refine coreS.dry E_ok (by kernel_rfl) 12 rfl rfl (by kernel_rfl) (by kernel_rfl) ?_
                simp [encCirc_eq, encNotes_eq, noteL_map, encNote_eq, zn, h15, ex, wk, h39, hx2, hxx2]
                repeat refine ⟨by first | omega | assumption | (simp only [maxLen]; omega) | (intros; omega) | decide, ?_⟩
                exact contS.mk (by simp [Weak, TW, T.plain, encCirc_eq, encNotes_eq, noteL_map, encNote_eq, zn]) h_5_9_ (by kernel_rfl)
              exact anyS.nil
            refine contS.cut 4 #[true, true, true, true, true, false, true, true, true, true, false, false, false] [(0, T.val (zt8x1 c)), (1, T.val (D.int IntKind.i64 a)), (2, T.val (D.int IntKind.i64 m)), (7, T.val ((zt8x2).slice (List.map encNote L))), (8, T.val ((zt8x2).slice (List.map encNote M))), (9, T.val (D.int IntKind.i64 ↑k)), (10, T.val (D.bool f)), (11, T.val (D.int IntKind.i64 ↑k2)), (39, T.val (D.bool true)), (43, T.val (D.bool f)), (46, T.opt [!f] (T.val (D.ref [D.int IntKind.i64 x.kind, D.int IntKind.i64 x.patron, D.int IntKind.i64 x.item, D.int IntKind.i64 x.day]))), (51, T.opt [!f] (T.val (D.agg [D.int IntKind.i64 x2.kind, D.int IntKind.i64 x2.patron, D.int IntKind.i64 x2.item, D.int IntKind.i64 x2.day])))] ?_ fun h_9 => ?_
            · skip
              refine coreS.step E_ok [5] (by kernel_rfl) (by simp) ?_
              refine anyS.cons rfl ?_ ?_
              · skip
                simp [encCirc_eq, encNotes_eq, noteL_map, encNote_eq, zn, h15, ex, wk, h39, hx2, hxx2]
                repeat refine ⟨by first | omega | assumption | (simp only [maxLen]; omega) | (intros; omega) | decide, ?_⟩
                refine contS.now (f' := 3) (l' := #[true, true, true, true, true, true, true, true, true, true, false, false, false]) ?_ rfl (by kernel_rfl)
                refine coreS.dry E_ok (by kernel_rfl) 10 rfl rfl (by kernel_rfl) (by kernel_rfl) ?_
                simp [encCirc_eq, encNotes_eq, noteL_map, encNote_eq, zn, h15, ex, wk, h39, hx2, hxx2]
                repeat refine ⟨by first | omega | assumption | (simp only [maxLen]; omega) | (intros; omega) | decide, ?_⟩
                refine contS.now (f' := 2) (l' := #[true, true, true, true, true, true, true, true, true, true, true, false, false]) ?_ rfl (by kernel_rfl)
                refine coreS.dry E_ok (by kernel_rfl) 11 rfl rfl (by kernel_rfl) (by kernel_rfl) ?_
                simp [encCirc_eq, encNotes_eq, noteL_map, encNote_eq, zn, h15, ex, wk, h39, hx2, hxx2]
                repeat refine ⟨by first | omega | assumption | (simp only [maxLen]; omega) | (intros; omega) | decide, ?_⟩
                refine contS.now (f' := 1) (l' := #[true, true, true, true, true, true, true, true, true, true, true, true, false]) ?_ rfl (by kernel_rfl)
                refine coreS.dry E_ok (by kernel_rfl) 12 rfl rfl (by kernel_rfl) (by kernel_rfl) ?_
                simp [encCirc_eq, encNotes_eq, noteL_map, encNote_eq, zn, h15, ex, wk, h39, hx2, hxx2]
                repeat refine ⟨by first | omega | assumption | (simp only [maxLen]; omega) | (intros; omega) | decide, ?_⟩
                exact contS.mk (by simp [Weak, TW, T.plain, encCirc_eq, encNotes_eq, noteL_map, encNote_eq, zn]) h_5_9_ (by kernel_rfl)
              exact anyS.nil
            refine contS.cut 5 #[true, true, true, true, true, false, true, true, true, false, false, false, false] [(0, T.val (zt8x1 c)), (1, T.val (D.int IntKind.i64 a)), (2, T.val (D.int IntKind.i64 m)), (7, T.val ((zt8x2).slice (List.map encNote L))), (8, T.val ((zt8x2).slice (List.map encNote M))), (9, T.val (D.int IntKind.i64 ↑k)), (10, T.val (D.bool f)), (11, T.val (D.int IntKind.i64 ↑k2)), (39, T.val (D.bool true)), (43, T.val (D.bool f)), (46, T.opt [!f] (T.val (D.ref [D.int IntKind.i64 x.kind, D.int IntKind.i64 x.patron, D.int IntKind.i64 x.item, D.int IntKind.i64 x.day]))), (50, T.opt [!f] (T.val (D.ref [D.int IntKind.i64 x2.kind, D.int IntKind.i64 x2.patron, D.int IntKind.i64 x2.item, D.int IntKind.i64 x2.day])))] ?_ fun h_ => ?_
            · skip
              refine coreS.step E_ok [5, 9] (by kernel_rfl) (by simp) ?_
              refine anyS.cons rfl ?_ ?_
              · skip
                simp [encCirc_eq, encNotes_eq, noteL_map, encNote_eq, zn, h15, ex, wk, h39, hx2, hxx2]
                repeat refine ⟨by first | omega | assumption | (simp only [maxLen]; omega) | (intros; omega) | decide, ?_⟩
                exact contS.mk (by simp [Weak, TW, T.plain, encCirc_eq, encNotes_eq, noteL_map, encNote_eq, zn]) h_5 (by kernel_rfl)
              refine anyS.cons rfl ?_ ?_
              · skip
                simp [encCirc_eq, encNotes_eq, noteL_map, encNote_eq, zn, h15, ex, wk, h39, hx2, hxx2]
                repeat refine ⟨by first | omega | assumption | (simp only [maxLen]; omega) | (intros; omega) | decide, ?_⟩
                exact contS.mk (by simp [Weak, TW, T.plain, encCirc_eq, encNotes_eq, noteL_map, encNote_eq, zn]) h_9 (by kernel_rfl)
              exact anyS.nil
            refine contS.now (f' := 13) (l' := #[false, false, false, false, false, false, false, false, false, false, false, false, false]) ?_ rfl (by kernel_rfl)
            refine coreS.dry E_ok (by kernel_rfl) 0 rfl rfl (by kernel_rfl) (by kernel_rfl) ?_
            simp [encCirc_eq, encNotes_eq, noteL_map, encNote_eq, zn, h15, ex, wk, h39, hx2, hxx2]
            repeat refine ⟨by first | omega | assumption | (simp only [maxLen]; omega) | (intros; omega) | decide, ?_⟩
            refine contS.now (f' := 12) (l' := #[true, false, false, false, false, false, false, false, false, false, false, false, false]) ?_ rfl (by kernel_rfl)
            refine coreS.dry E_ok (by kernel_rfl) 1 rfl rfl (by kernel_rfl) (by kernel_rfl) ?_
            simp [encCirc_eq, encNotes_eq, noteL_map, encNote_eq, zn, h15, ex, wk, h39, hx2, hxx2]
            repeat refine ⟨by first | omega | assumption | (simp only [maxLen]; omega) | (intros; omega) | decide, ?_⟩
            refine contS.now (f' := 11) (l' := #[true, true, false, false, false, false, false, false, false, false, false, false, false]) ?_ rfl (by kernel_rfl)
            refine coreS.dry E_ok (by kernel_rfl) 2 rfl rfl (by kernel_rfl) (by kernel_rfl) ?_
            simp [encCirc_eq, encNotes_eq, noteL_map, encNote_eq, zn, h15, ex, wk, h39, hx2, hxx2]
            repeat refine ⟨by first | omega | assumption | (simp only [maxLen]; omega) | (intros; omega) | decide, ?_⟩
            refine contS.now (f' := 10) (l' := #[true, true, true, false, false, false, false, false, false, false, false, false, false]) ?_ rfl (by kernel_rfl)
            refine coreS.dry E_ok (by kernel_rfl) 3 rfl rfl (by kernel_rfl) (by kernel_rfl) ?_
            simp [encCirc_eq, encNotes_eq, noteL_map, encNote_eq, zn, h15, ex, wk, h39, hx2, hxx2]
            repeat refine ⟨by first | omega | assumption | (simp only [maxLen]; omega) | (intros; omega) | decide, ?_⟩
            refine contS.now (f' := 9) (l' := #[true, true, true, true, false, false, false, false, false, false, false, false, false]) ?_ rfl (by kernel_rfl)
            refine coreS.dry E_ok (by kernel_rfl) 4 rfl rfl (by kernel_rfl) (by kernel_rfl) ?_
            simp [encCirc_eq, encNotes_eq, noteL_map, encNote_eq, zn, h15, ex, wk, h39, hx2, hxx2]
            repeat refine ⟨by first | omega | assumption | (simp only [maxLen]; omega) | (intros; omega) | decide, ?_⟩
            refine contS.now (f' := 8) (l' := #[true, true, true, true, true, false, false, false, false, false, false, false, false]) ?_ rfl (by kernel_rfl)
            refine coreS.dry E_ok (by kernel_rfl) 6 rfl rfl (by kernel_rfl) (by kernel_rfl) ?_
            simp [encCirc_eq, encNotes_eq, noteL_map, encNote_eq, zn, h15, ex, wk, h39, hx2, hxx2]
            repeat refine ⟨by first | omega | assumption | (simp only [maxLen]; omega) | (intros; omega) | decide, ?_⟩
            refine contS.now (f' := 7) (l' := #[true, true, true, true, true, false, true, false, false, false, false, false, false]) ?_ rfl (by kernel_rfl)
            refine coreS.dry E_ok (by kernel_rfl) 7 rfl rfl (by kernel_rfl) (by kernel_rfl) ?_
            simp [encCirc_eq, encNotes_eq, noteL_map, encNote_eq, zn, h15, ex, wk, h39, hx2, hxx2]
            repeat refine ⟨by first | omega | assumption | (simp only [maxLen]; omega) | (intros; omega) | decide, ?_⟩
            refine contS.now (f' := 6) (l' := #[true, true, true, true, true, false, true, true, false, false, false, false, false]) ?_ rfl (by kernel_rfl)
            refine coreS.dry E_ok (by kernel_rfl) 8 rfl rfl (by kernel_rfl) (by kernel_rfl) ?_
            simp [encCirc_eq, encNotes_eq, noteL_map, encNote_eq, zn, h15, ex, wk, h39, hx2, hxx2]
            repeat refine ⟨by first | omega | assumption | (simp only [maxLen]; omega) | (intros; omega) | decide, ?_⟩
            exact contS.mk (by simp [Weak, TW, T.plain, encCirc_eq, encNotes_eq, noteL_map, encNote_eq, zn]) h_ (by kernel_rfl)
          refine hK _ ?_
          clear hK K
          repeat first | refine thenN ?_ | refine thenX ?_ | refine thenR ?_ | refine blockN ?_ | refine blockR ?_ | refine blockX ?_ | refine blockM rfl ?_
          -- region 12
          refine AWp.rend E_ok [0, 1, 2, 3, 6, 7, 8, 9, 10, 11, 12, 13, 15, 23, 33, 39, 55, 60, 78] fun K hK => ?_
          simp [encCirc_eq, encNotes_eq, noteL_map, encNote_eq, zn, h15, ex, wk, h39, hx2, hxx2]
          repeat refine ⟨by first | omega | assumption | (simp only [maxLen]; omega) | (intros; omega) | decide, ?_⟩
          refine hK _ ?_
          clear hK K
          repeat first | refine thenN ?_ | refine thenX ?_ | refine thenR ?_ | refine blockN ?_ | refine blockR ?_ | refine blockX ?_ | refine blockM rfl ?_
          have hw2 : IntKind.i64.wrap ((k2 : Int) + 1) = (k2 : Int) + 1 := by rw [wrap_i64] <;> omega
          skip
          refine ⟨_, h39, hs2, ?_, ?_⟩
          · first | exact trivial | (simp; omega) | simp
          · simp [Weak, TW, hw2, encCirc_eq, encNotes_eq, noteL_map, encNote_eq, zn]
        · try simp at h39
          obtain rfl : k2 = M.length := by omega
          rw [List.drop_length] at hs2
          simp only [anF] at hs2
          rw [hxm] at hs2
          refine AWp.exit ?_
          repeat first | refine thenN ?_ | refine thenX ?_ | refine thenR ?_ | refine blockN ?_ | refine blockR ?_ | refine blockX ?_ | refine blockM rfl ?_
          -- region 14
          refine AWp.rseq E_ok [0, 1, 2, 3, 6, 7, 8, 9, 10, 11, 12, 13, 15, 23, 33, 39, 55, 60, 78] fun K hK => ?_
          simp [encCirc_eq, encNotes_eq, noteL_map, encNote_eq, zn, h15, ex, wk, h39]
          repeat refine ⟨by first | omega | assumption | (simp only [maxLen]; omega) | (intros; omega) | decide, ?_⟩
          refine hK _ ?_
          clear hK K
          refine AWp.cond rfl (fun h55 => ?_) (fun h55 => ?_)
          · try simp at h55
            exfalso; simp_all
          · try simp at h55
            refine AWp.skip ?_
            repeat first | refine thenN ?_ | refine thenX ?_ | refine thenR ?_ | refine blockN ?_ | refine blockR ?_ | refine blockX ?_ | refine blockM rfl ?_
            -- region 8
            refine AWp.rend E_ok [0, 1, 2, 3, 6, 7, 8, 9, 10, 11, 12, 13, 15, 23, 33, 39, 55, 60, 78] fun K hK => ?_
            simp [encCirc_eq, encNotes_eq, noteL_map, encNote_eq, zn, h15, ex, wk, h39]
            repeat refine ⟨by first | omega | assumption | (simp only [maxLen]; omega) | (intros; omega) | decide, ?_⟩
            refine hK _ ?_
            clear hK K
            repeat first | refine thenN ?_ | refine thenX ?_ | refine thenR ?_ | refine blockN ?_ | refine blockR ?_ | refine blockX ?_ | refine blockM rfl ?_
            refine ⟨⟨k + 1, by omega⟩, ?_, by dsimp only; omega⟩
            try dsimp only
            simp [Weak, TW, wk]
      · try simp at h33
        refine AWp.exit ?_
        repeat first | refine thenN ?_ | refine thenX ?_ | refine thenR ?_ | refine blockN ?_ | refine blockR ?_ | refine blockX ?_ | refine blockM rfl ?_
        -- region 16
        refine AWp.rseq E_ok [0, 1, 2, 3, 6, 7, 8, 9, 10, 11, 12, 13, 15, 23, 33, 39, 55, 60, 78] fun K hK => ?_
        simp [encCirc_eq, encNotes_eq, noteL_map, encNote_eq, zn, h15]
        repeat refine ⟨by first | omega | assumption | (simp only [maxLen]; omega) | (intros; omega) | decide, ?_⟩
        refine hK _ ?_
        clear hK K
        refine AWp.seq ?_
        -- region 17
        refine AWp.rseq E_ok [0, 1, 2, 3, 6, 7, 8, 9, 10, 11, 12, 13, 15, 23, 33, 39, 55, 60, 78] fun K hK => ?_
        simp [encCirc_eq, encNotes_eq, noteL_map, encNote_eq, zn, h15]
        repeat refine ⟨by first | omega | assumption | (simp only [maxLen]; omega) | (intros; omega) | decide, ?_⟩
        refine hK _ ?_
        clear hK K
        refine AWp.block ?_
        refine AWp.loop (ι := { k : Nat // k ≤ M.length }) (fun x => match x with | ⟨k, hkm⟩ => [(0, T.val (zt8x1 c)), (1, T.val (D.int IntKind.i64 a)), (2, T.val (D.int IntKind.i64 m)), (7, T.val ((zt8x4).slice (List.map encNote L))), (8, T.val ((zt8x4).slice (List.map encNote M))), (12, T.own true (encNote zn) (noteL (outK M k))), (13, T.val (.int .i64 (k : Int)))]) (fun x => match x with | ⟨k, hkm⟩ => M.length - k) ⟨0, Nat.zero_le _⟩ ?_ ?_
        · simp [Weak, TW, encCirc_eq, encNotes_eq, noteL_map, encNote_eq, zn]
        rintro ⟨k, hkm⟩
        simp only
        try simp only at hkm
        refine AWp.seq ?_
        -- region 18
        refine AWp.rseq E_ok [0, 1, 2, 3, 6, 7, 8, 9, 10, 11, 12, 13, 15, 23, 33, 39, 55, 60, 78] fun K hK => ?_
        simp [encCirc_eq, encNotes_eq, noteL_map, encNote_eq, zn, h15]
        repeat refine ⟨by first | omega | assumption | (simp only [maxLen]; omega) | (intros; omega) | decide, ?_⟩
        refine hK _ ?_
        clear hK K
        refine AWp.cond rfl (fun h60 => ?_) (fun h60 => ?_)
        · try simp at h60
          obtain ⟨y, hy⟩ : ∃ y, M[k]? = some y := ⟨_, List.getElem?_eq_getElem (by omega)⟩
          have ey : (M.map encNote)[k]? = some (.agg [.int .i64 y.kind, .int .i64 y.patron, .int .i64 y.item, .int .i64 y.day]) := by simp [hy, encNote_eq]
          have wk : IntKind.i64.wrap ((k : Int) + 1) = (k : Int) + 1 := wrap_i64 (by omega) (by omega)
          have hol := outK_len M k
          have hfl := forN_len M y.patron
          refine AWp.skip ?_
          repeat first | refine thenN ?_ | refine thenX ?_ | refine thenR ?_ | refine blockN ?_ | refine blockR ?_ | refine blockX ?_ | refine blockM rfl ?_
          refine AWp.seq ?_
          refine AWp.block ?_
          rcases Nat.eq_zero_or_pos k with hk0 | hk0
          · skip
            have h1 : ((k : Int) == 0) = true := by simp; omega
            have wp1 : IntKind.i64.wrap ((k : Int) - 1) = -1 := by rw [hk0]; rfl
            have hy0 : M[0]? = some y := by rw [hk0] at hy; exact hy
            -- region 20, every order
            refine AWp.rseqS E_ok mixed [0, 1, 2, 3, 6, 7, 8, 9, 10, 11, 12, 13, 15, 23, 33, 39, 55, 60, 78] (n := 16) (l := (zt8x5)) rfl (by kernel_rfl) fun K hK => ?_
            suffices hnext : K [(0, T.val (zt8x1 c)), (1, T.val (D.int IntKind.i64 a)), (2, T.val (D.int IntKind.i64 m)), (3, T.junk), (6, T.junk), (7, T.val ((zt8x2).slice (List.map encNote L))), (8, T.val ((zt8x2).slice (List.map encNote M))), (9, T.junk), (10, T.junk), (11, T.junk), (12, T.own true (zt8x2) (List.map encNote (outK M k))), (13, T.val (D.int IntKind.i64 ↑k)), (15, T.junk), (23, T.junk), (33, T.junk), (39, T.junk), (55, T.junk), (60, T.val (D.bool (decide (k < M.length)))), (78, T.val (D.bool true))] by
              refine contS.cut 0 #[true, true, true, true, true, true, true, true, true, true, true, true, true, true, true, true] [(0, T.val (zt8x1 c)), (1, T.val (D.int IntKind.i64 a)), (2, T.val (D.int IntKind.i64 m)), (7, T.val ((zt8x2).slice (List.map encNote L))), (8, T.val ((zt8x2).slice (List.map encNote M))), (12, T.own true (zt8x2) (List.map encNote (outK M k))), (13, T.val (D.int IntKind.i64 ↑k)), (60, T.val (D.bool (decide (k < M.length)))), (78, T.val (D.bool true))] ?_ fun h_7_13_ => ?_
              · skip
                refine coreS.nil (by kernel_rfl) ?_
                simpa [encCirc_eq, encNotes_eq, noteL_map, encNote_eq, zn] using hnext
              refine contS.cut 3 #[true, true, true, true, true, true, true, true, true, true, true, true, true, false, false, false] [(0, T.val (zt8x1 c)), (1, T.val (D.int IntKind.i64 a)), (2, T.val (D.int IntKind.i64 m)), (7, T.val ((zt8x2).slice (List.map encNote L))), (8, T.val ((zt8x2).slice (List.map encNote M))), (12, T.own true (zt8x2) (List.map encNote (outK M k))), (13, T.val (D.int IntKind.i64 ↑k)), (60, T.val (D.bool (decide (k < M.length)))), (65, T.val (D.bool true)), (70, T.opt [false] (T.val (D.int IntKind.i64 y.patron))), (75, T.opt [false] (T.val (D.ref [D.int IntKind.i64 y.patron, D.int IntKind.i64 y.item, D.int IntKind.i64 y.day])))] ?_ fun h_7 => ?_
              · skip
                refine coreS.step E_ok [13] (by kernel_rfl) (by simp) ?_
                refine anyS.cons rfl ?_ ?_
                · skip
                  simp [encCirc_eq, encNotes_eq, noteL_map, encNote_eq, zn, h15, ey, wk, h1, wp1, hy0]
                  repeat refine ⟨by first | omega | assumption | (simp only [maxLen]; omega) | (intros; omega) | decide, ?_⟩
                  refine contS.now (f' := 2) (l' := #[true, true, true, true, true, true, true, true, true, true, true, true, true, true, false, false]) ?_ rfl (by kernel_rfl)
                  refine coreS.dry E_ok (by kernel_rfl) 14 rfl rfl (by kernel_rfl) (by kernel_rfl) ?_
                  simp [encCirc_eq, encNotes_eq, noteL_map, encNote_eq, zn, h15, ey, wk, h1, wp1, hy0]
                  repeat refine ⟨by first | omega | assumption | (simp only [maxLen]; omega) | (intros; omega) | decide, ?_⟩
                  refine contS.now (f' := 1) (l' := #[true, true, true, true, true, true, true, true, true, true, true, true, true, true, true, false]) ?_ rfl (by kernel_rfl)
                  refine coreS.dry E_ok (by kernel_rfl) 15 rfl rfl (by kernel_rfl) (by kernel_rfl) ?_
                  simp [encCirc_eq, encNotes_eq, noteL_map, encNote_eq, zn, h15, ey, wk, h1, wp1, hy0]
                  repeat refine ⟨by first | omega | assumption | (simp only [maxLen]; omega) | (intros; omega) | decide, ?_⟩
                  exact contS.mk (by simp [Weak, TW, T.plain, encCirc_eq, encNotes_eq, noteL_map, encNote_eq, zn]) h_7_13_ (by kernel_rfl)
                exact anyS.nil
              refine contS.cut 3 #[true, true, true, true, true, true, true, false, true, true, true, true, true, true, false, false] [(0, T.val (zt8x1 c)), (1, T.val (D.int IntKind.i64 a)), (2, T.val (D.int IntKind.i64 m)), (7, T.val ((zt8x2).slice (List.map encNote L))), (8, T.val ((zt8x2).slice (List.map encNote M))), (12, T.own true (zt8x2) (List.map encNote (outK M k))), (13, T.val (D.int IntKind.i64 ↑k)), (60, T.val (D.bool (decide (k < M.length)))), (65, T.val (D.bool true)), (69, T.opt [false] (T.val (D.ref [D.int IntKind.i64 y.patron, D.int IntKind.i64 y.item, D.int IntKind.i64 y.day]))), (76, T.opt [false] (T.val (D.int IntKind.i64 y.patron)))] ?_ fun h_13 => ?_
              · skip
                refine coreS.step E_ok [7] (by kernel_rfl) (by simp) ?_
                refine anyS.cons rfl ?_ ?_
                · skip
                  simp [encCirc_eq, encNotes_eq, noteL_map, encNote_eq, zn, h15, ey, wk, h1, wp1, hy0]
                  repeat refine ⟨by first | omega | assumption | (simp only [maxLen]; omega) | (intros; omega) | decide, ?_⟩
                  refine contS.now (f' := 2) (l' := #[true, true, true, true, true, true, true, true, true, true, true, true, true, true, false, false]) ?_ rfl (by kernel_rfl)
                  refine coreS.dry E_ok (by kernel_rfl) 14 rfl rfl (by kernel_rfl) (by kernel_rfl) ?_
                  simp [encCirc_eq, encNotes_eq, noteL_map, encNote_eq, zn, h15, ey, wk, h1, wp1, hy0]
                  repeat refine ⟨by first | omega | assumption | (simp only [maxLen]; omega) | (intros; omega) | decide, ?_⟩
                  refine contS.now (f' := 1) (l' := #[true, true, true, true, true, true, true, true, true, true, true, true, true, true, true, false]) ?_ rfl (by kernel_rfl)
                  refine coreS.dry E_ok (by kernel_rfl) 15 rfl rfl (by kernel_rfl) (by kernel_rfl) ?_
                  simp [encCirc_eq, encNotes_eq, noteL_map, encNote_eq, zn, h15, ey, wk, h1, wp1, hy0]
                  repeat refine ⟨by first | omega | assumption | (simp only [maxLen]; omega) | (intros; omega) | decide, ?_⟩
                  exact contS.mk (by simp [Weak, TW, T.plain, encCirc_eq, encNotes_eq, noteL_map, encNote_eq, zn]) h_7_13_ (by kernel_rfl)
                exact anyS.nil
              refine contS.cut 4 #[true, true, true, true, true, true, true, false, true, true, true, true, true, false, false, false] [(0, T.val (zt8x1 c)), (1, T.val (D.int IntKind.i64 a)), (2, T.val (D.int IntKind.i64 m)), (7, T.val ((zt8x2).slice (List.map encNote L))), (8, T.val ((zt8x2).slice (List.map encNote M))), (12, T.own true (zt8x2) (List.map encNote (outK M k))), (13, T.val (D.int IntKind.i64 ↑k)), (60, T.val (D.bool (decide (k < M.length)))), (65, T.val (D.bool true)), (69, T.opt [false] (T.val (D.ref [D.int IntKind.i64 y.patron, D.int IntKind.i64 y.item, D.int IntKind.i64 y.day]))), (75, T.opt [false] (T.val (D.ref [D.int IntKind.i64 y.patron, D.int IntKind.i64 y.item, D.int IntKind.i64 y.day])))] ?_ fun h_ => ?_
              · skip
                refine coreS.step E_ok [7, 13] (by kernel_rfl) (by simp) ?_
                refine anyS.cons rfl ?_ ?_
                · skip
                  simp [encCirc_eq, encNotes_eq, noteL_map, encNote_eq, zn, h15, ey, wk, h1, wp1, hy0]
                  repeat refine ⟨by first | omega | assumption | (simp only [maxLen]; omega) | (intros; omega) | decide, ?_⟩
                  exact contS.mk (by simp [Weak, TW, T.plain, encCirc_eq, encNotes_eq, noteL_map, encNote_eq, zn]) h_7 (by kernel_rfl)
                refine anyS.cons rfl ?_ ?_
                · skip
                  simp [encCirc_eq, encNotes_eq, noteL_map, encNote_eq, zn, h15, ey, wk, h1, wp1, hy0]
                  repeat refine ⟨by first | omega | assumption | (simp only [maxLen]; omega) | (intros; omega) | decide, ?_⟩
                  exact contS.mk (by simp [Weak, TW, T.plain, encCirc_eq, encNotes_eq, noteL_map, encNote_eq, zn]) h_13 (by kernel_rfl)
                exact anyS.nil
              refine contS.now (f' := 16) (l' := (zt8x5)) ?_ rfl (by kernel_rfl)
              refine coreS.dry E_ok (by kernel_rfl) 0 rfl rfl (by kernel_rfl) (by kernel_rfl) ?_
              simp [encCirc_eq, encNotes_eq, noteL_map, encNote_eq, zn, h15, ey, wk, h1, wp1, hy0]
              repeat refine ⟨by first | omega | assumption | (simp only [maxLen]; omega) | (intros; omega) | decide, ?_⟩
              refine contS.now (f' := 15) (l' := #[true, false, false, false, false, false, false, false, false, false, false, false, false, false, false, false]) ?_ rfl (by kernel_rfl)
              refine coreS.dry E_ok (by kernel_rfl) 1 rfl rfl (by kernel_rfl) (by kernel_rfl) ?_
              simp [encCirc_eq, encNotes_eq, noteL_map, encNote_eq, zn, h15, ey, wk, h1, wp1, hy0]
              repeat refine ⟨by first | omega | assumption | (simp only [maxLen]; omega) | (intros; omega) | decide, ?_⟩
              refine contS.now (f' := 14) (l' := #[true, true, false, false, false, false, false, false, false, false, false, false, false, false, false, false]) ?_ rfl (by kernel_rfl)
              refine coreS.dry E_ok (by kernel_rfl) 2 rfl rfl (by kernel_rfl) (by kernel_rfl) ?_
              simp [encCirc_eq, encNotes_eq, noteL_map, encNote_eq, zn, h15, ey, wk, h1, wp1, hy0]
              repeat refine ⟨by first | omega | assumption | (simp only [maxLen]; omega) | (intros; omega) | decide, ?_⟩
              refine contS.now (f' := 13) (l' := #[true, true, true, false, false, false, false, false, false, false, false, false, false, false, false, false]) ?_ rfl (by kernel_rfl)
              refine coreS.dry E_ok (by kernel_rfl) 3 rfl rfl (by kernel_rfl) (by kernel_rfl) ?_
              simp [encCirc_eq, encNotes_eq, noteL_map, encNote_eq, zn, h15, ey, wk, h1, wp1, hy0]
              repeat refine ⟨by first | omega | assumption | (simp only [maxLen]; omega) | (intros; omega) | decide, ?_⟩
              refine contS.now (f' := 12) (l' := #[true, true, true, true, false, false, false, false, false, false, false, false, false, false, false, false]) ?_ rfl (by kernel_rfl)
              refine coreS.dry E_ok (by kernel_rfl) 4 rfl rfl (by kernel_rfl) (by kernel_rfl) ?_
              simp [encCirc_eq, encNotes_eq, noteL_map, encNote_eq, zn, h15, ey, wk, h1, wp1, hy0]
              repeat refine ⟨by first | omega | assumption | (simp only [maxLen]; omega) | (intros; omega) | decide, ?_⟩
              refine contS.now (f' := 11) (l' := #[true, true, true, true, true, false, false, false, false, false, false, false, false, false, false, false]) ?_ rfl (by kernel_rfl)
              refine coreS.dry E_ok (by kernel_rfl) 5 rfl rfl (by kernel_rfl) (by kernel_rfl) ?_
              simp [encCirc_eq, encNotes_eq, noteL_map, encNote_eq, zn, h15, ey, wk, h1, wp1, hy0]
              repeat refine ⟨by first | omega | assumption | (simp only [maxLen]; omega) | (intros; omega) | decide, ?_⟩
              refine contS.now (f' := 10) (l' := #[true, true, true, true, true, true, false, false, false, false, false, false, false, false, false, false]) ?_ rfl (by kernel_rfl)
              refine coreS.dry E_ok (by kernel_rfl) 6 rfl rfl (by kernel_rfl) (by kernel_rfl) ?_
              simp [encCirc_eq, encNotes_eq, noteL_map, encNote_eq, zn, h15, ey, wk, h1, wp1, hy0]
              repeat refine ⟨by first | omega | assumption | (simp only [maxLen]; omega) | (intros; omega) | decide, ?_⟩
              refine contS.now (f' := 9) (l' := #[true, true, true, true, true, true, true, false, false, false, false, false, false, false, false, false]) ?_ rfl (by kernel_rfl)
              refine coreS.dry E_ok (by kernel_rfl) 8 rfl rfl (by kernel_rfl) (by kernel_rfl) ?_
              simp [encCirc_eq, encNotes_eq, noteL_map, encNote_eq, zn, h15, ey, wk, h1, wp1, hy0]
              repeat refine ⟨by first | omega | assumption | (simp only [maxLen]; omega) | (intros; omega) | decide, ?_⟩
              refine contS.now (f' := 8) (l' := #[true, true, true, true, true, true, true, false, true, false, false, false, false, false, false, false]) ?_ rfl (by kernel_rfl)
              refine coreS.dry E_ok (by kernel_rfl) 9 rfl rfl (by kernel_rfl) (by kernel_rfl) ?_
              simp [encCirc_eq, encNotes_eq, noteL_map, encNote_eq, zn, h15, ey, wk, h1, wp1, hy0]
              repeat refine ⟨by first | omega | assumption | (simp only [maxLen]; omega) | (intros; omega) | decide, ?_⟩
              refine contS.now (f' := 7) (l' := #[true, true, true, true, true, true, true, false, true, true, false, false, false, false, false, false]) ?_ rfl (by kernel_rfl)
              refine coreS.dry E_ok (by kernel_rfl) 10 rfl rfl (by kernel_rfl) (by kernel_rfl) ?_
              simp [encCirc_eq, encNotes_eq, noteL_map, encNote_eq, zn, h15, ey, wk, h1, wp1, hy0]
              repeat refine ⟨by first | omega | assumption | (simp only [maxLen]; omega) | (intros; omega) | decide, ?_⟩
              refine contS.now (f' := 6) (l' := #[true, true, true, true, true, true, true, false, true, true, true, false, false, false, false, false]) ?_ rfl (by kernel_rfl)
              refine coreS.dry E_ok (by kernel_rfl) 11 rfl rfl (by kernel_rfl) (by kernel_rfl) ?_
              simp [encCirc_eq, encNotes_eq, noteL_map, encNote_eq, zn, h15, ey, wk, h1, wp1, hy0]
              repeat refine ⟨by first | omega | assumption | (simp only [maxLen]; omega) | (intros; omega) | decide, ?_⟩
              refine contS.now (f' := 5) (l' := #[true, true, true, true, true, true, true, false, true, true, true, true, false, false, false, false]) ?_ rfl (by kernel_rfl)
              refine coreS.dry E_ok (by kernel_rfl) 12 rfl rfl (by kernel_rfl) (by kernel_rfl) ?_
              simp [encCirc_eq, encNotes_eq, noteL_map, encNote_eq, zn, h15, ey, wk, h1, wp1, hy0]
              repeat refine ⟨by first | omega | assumption | (simp only [maxLen]; omega) | (intros; omega) | decide, ?_⟩
              exact contS.mk (by simp [Weak, TW, T.plain, encCirc_eq, encNotes_eq, noteL_map, encNote_eq, zn]) h_ (by kernel_rfl)
            refine hK _ ?_
            clear hK K
            refine AWp.cond rfl (fun h78 => ?_) (fun h78 => ?_)
            · try simp at h78
              have hap : outK M k ++ forN M y.patron = outK M (k + 1) := by first | exact out_new hps (by omega) hx hy (by simpa using h78) | (obtain rfl : k = 0 := (by omega); exact out_first hps hy)
              have hapK : List.map encNote (outK M (k + 1)) = List.map encNote (outK M k) ++ List.map encNote (forN M y.patron) := by rw [← hap, List.map_append]
              -- region 21
              refine AWp.rend E_ok [0, 1, 2, 3, 6, 7, 8, 9, 10, 11, 12, 13, 15, 23, 33, 39, 55, 60, 78] fun K hK => ?_
              simp [encCirc_eq, encNotes_eq, noteL_map, encNote_eq, zn, h15, ey, wk, h1, wp1, hy0]
              repeat refine ⟨by first | omega | assumption | (simp only [maxLen]; omega) | (intros; omega) | decide, ?_⟩
              refine meet.of (notice_For_d M y.patron (by omega)) ?_
              simp [encCirc_eq, encNotes_eq, noteL_map, encNote_eq, zn, h15, ey, wk, h1, wp1, hy0]
              repeat refine ⟨by first | omega | assumption | (simp only [maxLen]; omega) | (intros; omega) | decide, ?_⟩
              refine hK _ ?_
              clear hK K
              repeat first | refine thenN ?_ | refine thenX ?_ | refine thenR ?_ | refine blockN ?_ | refine blockR ?_ | refine blockX ?_ | refine blockM rfl ?_
              -- region 19
              refine AWp.rend E_ok [0, 1, 2, 3, 6, 7, 8, 9, 10, 11, 12, 13, 15, 23, 33, 39, 55, 60, 78] fun K hK => ?_
              simp [encCirc_eq, encNotes_eq, noteL_map, encNote_eq, zn, h15, ey, wk, h1, wp1, hy0]
              repeat refine ⟨by first | omega | assumption | (simp only [maxLen]; omega) | (intros; omega) | decide, ?_⟩
              refine hK _ ?_
              clear hK K
              repeat first | refine thenN ?_ | refine thenX ?_ | refine thenR ?_ | refine blockN ?_ | refine blockR ?_ | refine blockX ?_ | refine blockM rfl ?_
              refine ⟨⟨k + 1, by omega⟩, ?_, by dsimp only; omega⟩
              try dsimp only
              simp [Weak, TW, wk, hapK, noteL_map, encNote_eq, zn]
            · exact absurd h78 (by simp)
          · skip
            have h1 : ((k : Int) == 0) = false := by simp; omega
            obtain ⟨p, hp⟩ : ∃ z, z = k - 1 := ⟨_, rfl⟩
            obtain ⟨x, hx⟩ : ∃ x, M[p]? = some x := ⟨_, List.getElem?_eq_getElem (by omega)⟩
            have ex : (M.map encNote)[p]? = some (.agg [.int .i64 x.kind, .int .i64 x.patron, .int .i64 x.item, .int .i64 x.day]) := by simp [hx, encNote_eq]
            have wp : IntKind.i64.wrap ((k : Int) - 1) = (p : Int) := by rw [wrap_i64 (by omega) (by omega)]; omega
            -- region 20, every order
            refine AWp.rseqS E_ok mixed [0, 1, 2, 3, 6, 7, 8, 9, 10, 11, 12, 13, 15, 23, 33, 39, 55, 60, 78] (n := 16) (l := (zt8x5)) rfl (by kernel_rfl) fun K hK => ?_
            suffices hnext : K [(0, T.val (zt8x1 c)), (1, T.val (D.int IntKind.i64 a)), (2, T.val (D.int IntKind.i64 m)), (3, T.junk), (6, T.junk), (7, T.val ((zt8x2).slice (List.map encNote L))), (8, T.val ((zt8x2).slice (List.map encNote M))), (9, T.junk), (10, T.junk), (11, T.junk), (12, T.own true (zt8x2) (List.map encNote (outK M k))), (13, T.val (D.int IntKind.i64 ↑k)), (15, T.junk), (23, T.junk), (33, T.junk), (39, T.junk), (55, T.junk), (60, T.val (D.bool (decide (k < M.length)))), (78, T.val (D.bool (y.patron != x.patron)))] by
              refine contS.cut 0 #[true, true, true, true, true, true, true, true, true, true, true, true, true, true, true, true] [(0, T.val (zt8x1 c)), (1, T.val (D.int IntKind.i64 a)), (2, T.val (D.int IntKind.i64 m)), (7, T.val ((zt8x2).slice (List.map encNote L))), (8, T.val ((zt8x2).slice (List.map encNote M))), (12, T.own true (zt8x2) (List.map encNote (outK M k))), (13, T.val (D.int IntKind.i64 ↑k)), (60, T.val (D.bool (decide (k < M.length)))), (78, T.val (D.bool (y.patron != x.patron)))] ?_ fun h_7_13_ => ?_
              · skip
                refine coreS.nil (by kernel_rfl) ?_
                simpa [encCirc_eq, encNotes_eq, noteL_map, encNote_eq, zn] using hnext
              refine contS.cut 3 #[true, true, true, true, true, true, true, true, true, true, true, true, true, false, false, false] [(0, T.val (zt8x1 c)), (1, T.val (D.int IntKind.i64 a)), (2, T.val (D.int IntKind.i64 m)), (7, T.val ((zt8x2).slice (List.map encNote L))), (8, T.val ((zt8x2).slice (List.map encNote M))), (12, T.own true (zt8x2) (List.map encNote (outK M k))), (13, T.val (D.int IntKind.i64 ↑k)), (60, T.val (D.bool (decide (k < M.length)))), (65, T.val (D.bool false)), (70, T.opt [true] (T.val (D.int IntKind.i64 y.patron))), (75, T.opt [true] (T.val (D.ref [D.int IntKind.i64 x.patron, D.int IntKind.i64 x.item, D.int IntKind.i64 x.day])))] ?_ fun h_7 => ?_
              · skip
                refine coreS.step E_ok [13] (by kernel_rfl) (by simp) ?_
                refine anyS.cons rfl ?_ ?_
                · skip
                  simp [encCirc_eq, encNotes_eq, noteL_map, encNote_eq, zn, h15, ey, wk, h1, ex, hx, wp]
                  repeat refine ⟨by first | omega | assumption | (simp only [maxLen]; omega) | (intros; omega) | decide, ?_⟩
                  refine contS.now (f' := 2) (l' := #[true, true, true, true, true, true, true, true, true, true, true, true, true, true, false, false]) ?_ rfl (by kernel_rfl)
                  refine coreS.dry E_ok (by kernel_rfl) 14 rfl rfl (by kernel_rfl) (by kernel_rfl) ?_
                  simp [encCirc_eq, encNotes_eq, noteL_map, encNote_eq, zn, h15, ey, wk, h1, ex, hx, wp]
                  repeat refine ⟨by first | omega | assumption | (simp only [maxLen]; omega) | (intros; omega) | decide, ?_⟩
                  refine contS.now (f' := 1) (l' := #[true, true, true, true, true, true, true, true, true, true, true, true, true, true, true, false]) ?_ rfl (by kernel_rfl)
                  refine coreS.dry E_ok (by kernel_rfl) 15 rfl rfl (by kernel_rfl) (by kernel_rfl) ?_
                  simp [encCirc_eq, encNotes_eq, noteL_map, encNote_eq, zn, h15, ey, wk, h1, ex, hx, wp]
                  repeat refine ⟨by first | omega | assumption | (simp only [maxLen]; omega) | (intros; omega) | decide, ?_⟩
                  exact contS.mk (by simp [Weak, TW, T.plain, encCirc_eq, encNotes_eq, noteL_map, encNote_eq, zn]) h_7_13_ (by kernel_rfl)
                exact anyS.nil
              refine contS.cut 3 #[true, true, true, true, true, true, true, false, true, true, true, true, true, true, false, false] [(0, T.val (zt8x1 c)), (1, T.val (D.int IntKind.i64 a)), (2, T.val (D.int IntKind.i64 m)), (7, T.val ((zt8x2).slice (List.map encNote L))), (8, T.val ((zt8x2).slice (List.map encNote M))), (12, T.own true (zt8x2) (List.map encNote (outK M k))), (13, T.val (D.int IntKind.i64 ↑k)), (60, T.val (D.bool (decide (k < M.length)))), (65, T.val (D.bool false)), (69, T.opt [true] (T.val (D.ref [D.int IntKind.i64 y.patron, D.int IntKind.i64 y.item, D.int IntKind.i64 y.day]))), (76, T.opt [true] (T.val (D.int IntKind.i64 x.patron)))] ?_ fun h_13 => ?_
              · skip
                refine coreS.step E_ok [7] (by kernel_rfl) (by simp) ?_
                refine anyS.cons rfl ?_ ?_
                · skip
                  simp [encCirc_eq, encNotes_eq, noteL_map, encNote_eq, zn, h15, ey, wk, h1, ex, hx, wp]
                  repeat refine ⟨by first | omega | assumption | (simp only [maxLen]; omega) | (intros; omega) | decide, ?_⟩
                  refine contS.now (f' := 2) (l' := #[true, true, true, true, true, true, true, true, true, true, true, true, true, true, false, false]) ?_ rfl (by kernel_rfl)
                  refine coreS.dry E_ok (by kernel_rfl) 14 rfl rfl (by kernel_rfl) (by kernel_rfl) ?_
                  simp [encCirc_eq, encNotes_eq, noteL_map, encNote_eq, zn, h15, ey, wk, h1, ex, hx, wp]
                  repeat refine ⟨by first | omega | assumption | (simp only [maxLen]; omega) | (intros; omega) | decide, ?_⟩
                  refine contS.now (f' := 1) (l' := #[true, true, true, true, true, true, true, true, true, true, true, true, true, true, true, false]) ?_ rfl (by kernel_rfl)
                  refine coreS.dry E_ok (by kernel_rfl) 15 rfl rfl (by kernel_rfl) (by kernel_rfl) ?_
                  simp [encCirc_eq, encNotes_eq, noteL_map, encNote_eq, zn, h15, ey, wk, h1, ex, hx, wp]
                  repeat refine ⟨by first | omega | assumption | (simp only [maxLen]; omega) | (intros; omega) | decide, ?_⟩
                  exact contS.mk (by simp [Weak, TW, T.plain, encCirc_eq, encNotes_eq, noteL_map, encNote_eq, zn]) h_7_13_ (by kernel_rfl)
                exact anyS.nil
              refine contS.cut 4 #[true, true, true, true, true, true, true, false, true, true, true, true, true, false, false, false] [(0, T.val (zt8x1 c)), (1, T.val (D.int IntKind.i64 a)), (2, T.val (D.int IntKind.i64 m)), (7, T.val ((zt8x2).slice (List.map encNote L))), (8, T.val ((zt8x2).slice (List.map encNote M))), (12, T.own true (zt8x2) (List.map encNote (outK M k))), (13, T.val (D.int IntKind.i64 ↑k)), (60, T.val (D.bool (decide (k < M.length)))), (65, T.val (D.bool false)), (69, T.opt [true] (T.val (D.ref [D.int IntKind.i64 y.patron, D.int IntKind.i64 y.item, D.int IntKind.i64 y.day]))), (75, T.opt [true] (T.val (D.ref [D.int IntKind.i64 x.patron, D.int IntKind.i64 x.item, D.int IntKind.i64 x.day])))] ?_ fun h_ => ?_
              · skip
                refine coreS.step E_ok [7, 13] (by kernel_rfl) (by simp) ?_
                refine anyS.cons rfl ?_ ?_
                · skip
                  simp [encCirc_eq, encNotes_eq, noteL_map, encNote_eq, zn, h15, ey, wk, h1, ex, hx, wp]
                  repeat refine ⟨by first | omega | assumption | (simp only [maxLen]; omega) | (intros; omega) | decide, ?_⟩
                  exact contS.mk (by simp [Weak, TW, T.plain, encCirc_eq, encNotes_eq, noteL_map, encNote_eq, zn]) h_7 (by kernel_rfl)
                refine anyS.cons rfl ?_ ?_
                · skip
                  simp [encCirc_eq, encNotes_eq, noteL_map, encNote_eq, zn, h15, ey, wk, h1, ex, hx, wp]
                  repeat refine ⟨by first | omega | assumption | (simp only [maxLen]; omega) | (intros; omega) | decide, ?_⟩
                  exact contS.mk (by simp [Weak, TW, T.plain, encCirc_eq, encNotes_eq, noteL_map, encNote_eq, zn]) h_13 (by kernel_rfl)
                exact anyS.nil
              refine contS.now (f' := 16) (l' := (zt8x5)) ?_ rfl (by kernel_rfl)
              refine coreS.dry E_ok (by kernel_rfl) 0 rfl rfl (by kernel_rfl) (by kernel_rfl) ?_
              simp [encCirc_eq, encNotes_eq, noteL_map, encNote_eq, zn, h15, ey, wk, h1, ex, hx, wp]
              repeat refine ⟨by first | omega | assumption | (simp only [maxLen]; omega) | (intros; omega) | decide, ?_⟩
              refine contS.now (f' := 15) (l' := #[true, false, false, false, false, false, false, false, false, false, false, false, false, false, false, false]) ?_ rfl (by kernel_rfl)
              refine coreS.dry E_ok (by kernel_rfl) 1 rfl rfl (by kernel_rfl) (by kernel_rfl) ?_
              simp [encCirc_eq, encNotes_eq, noteL_map, encNote_eq, zn, h15, ey, wk, h1, ex, hx, wp]
              repeat refine ⟨by first | omega | assumption | (simp only [maxLen]; omega) | (intros; omega) | decide, ?_⟩
              refine contS.now (f' := 14) (l' := #[true, true, false, false, false, false, false, false, false, false, false, false, false, false, false, false]) ?_ rfl (by kernel_rfl)
              refine coreS.dry E_ok (by kernel_rfl) 2 rfl rfl (by kernel_rfl) (by kernel_rfl) ?_
              simp [encCirc_eq, encNotes_eq, noteL_map, encNote_eq, zn, h15, ey, wk, h1, ex, hx, wp]
              repeat refine ⟨by first | omega | assumption | (simp only [maxLen]; omega) | (intros; omega) | decide, ?_⟩
              refine contS.now (f' := 13) (l' := #[true, true, true, false, false, false, false, false, false, false, false, false, false, false, false, false]) ?_ rfl (by kernel_rfl)
              refine coreS.dry E_ok (by kernel_rfl) 3 rfl rfl (by kernel_rfl) (by kernel_rfl) ?_
              simp [encCirc_eq, encNotes_eq, noteL_map, encNote_eq, zn, h15, ey, wk, h1, ex, hx, wp]
              repeat refine ⟨by first | omega | assumption | (simp only [maxLen]; omega) | (intros; omega) | decide, ?_⟩
              refine contS.now (f' := 12) (l' := #[true, true, true, true, false, false, false, false, false, false, false, false, false, false, false, false]) ?_ rfl (by kernel_rfl)
              refine coreS.dry E_ok (by kernel_rfl) 4 rfl rfl (by kernel_rfl) (by kernel_rfl) ?_
              simp [encCirc_eq, encNotes_eq, noteL_map, encNote_eq, zn, h15, ey, wk, h1, ex, hx, wp]
              repeat refine ⟨by first | omega | assumption | (simp only [maxLen]; omega) | (intros; omega) | decide, ?_⟩
              refine contS.now (f' := 11) (l' := #[true, true, true, true, true, false, false, false, false, false, false, false, false, false, false, false]) ?_ rfl (by kernel_rfl)
              refine coreS.dry E_ok (by kernel_rfl) 5 rfl rfl (by kernel_rfl) (by kernel_rfl) ?_
              simp [encCirc_eq, encNotes_eq, noteL_map, encNote_eq, zn, h15, ey, wk, h1, ex, hx, wp]
              repeat refine ⟨by first | omega | assumption | (simp only [maxLen]; omega) | (intros; omega) | decide, ?_⟩
              refine contS.now (f' := 10) (l' := #[true, true, true, true, true, true, false, false, false, false, false, false, false, false, false, false]) ?_ rfl (by kernel_rfl)
              refine coreS.dry E_ok (by kernel_rfl) 6 rfl rfl (by kernel_rfl) (by kernel_rfl) ?_
              simp [encCirc_eq, encNotes_eq, noteL_map, encNote_eq, zn, h15, ey, wk, h1, ex, hx, wp]
              repeat refine ⟨by first | omega | assumption | (simp only [maxLen]; omega) | (intros; omega) | decide, ?_⟩
              refine contS.now (f' := 9) (l' := #[true, true, true, true, true, true, true, false, false, false, false, false, false, false, false, false]) ?_ rfl (by kernel_rfl)
              refine coreS.dry E_ok (by kernel_rfl) 8 rfl rfl (by kernel_rfl) (by kernel_rfl) ?_
              simp [encCirc_eq, encNotes_eq, noteL_map, encNote_eq, zn, h15, ey, wk, h1, ex, hx, wp]
              repeat refine ⟨by first | omega | assumption | (simp only [maxLen]; omega) | (intros; omega) | decide, ?_⟩
              refine contS.now (f' := 8) (l' := #[true, true, true, true, true, true, true, false, true, false, false, false, false, false, false, false]) ?_ rfl (by kernel_rfl)
              refine coreS.dry E_ok (by kernel_rfl) 9 rfl rfl (by kernel_rfl) (by kernel_rfl) ?_
              simp [encCirc_eq, encNotes_eq, noteL_map, encNote_eq, zn, h15, ey, wk, h1, ex, hx, wp]
              repeat refine ⟨by first | omega | assumption | (simp only [maxLen]; omega) | (intros; omega) | decide, ?_⟩
              refine contS.now (f' := 7) (l' := #[true, true, true, true, true, true, true, false, true, true, false, false, false, false, false, false]) ?_ rfl (by kernel_rfl)
              refine coreS.dry E_ok (by kernel_rfl) 10 rfl rfl (by kernel_rfl) (by kernel_rfl) ?_
              simp [encCirc_eq, encNotes_eq, noteL_map, encNote_eq, zn, h15, ey, wk, h1, ex, hx, wp]
              repeat refine ⟨by first | omega | assumption | (simp only [maxLen]; omega) | (intros; omega) | decide, ?_⟩
              refine contS.now (f' := 6) (l' := #[true, true, true, true, true, true, true, false, true, true, true, false, false, false, false, false]) ?_ rfl (by kernel_rfl)
              refine coreS.dry E_ok (by kernel_rfl) 11 rfl rfl (by kernel_rfl) (by kernel_rfl) ?_
              simp [encCirc_eq, encNotes_eq, noteL_map, encNote_eq, zn, h15, ey, wk, h1, ex, hx, wp]
              repeat refine ⟨by first | omega | assumption | (simp only [maxLen]; omega) | (intros; omega) | decide, ?_⟩
              refine contS.now (f' := 5) (l' := #[true, true, true, true, true, true, true, false, true, true, true, true, false, false, false, false]) ?_ rfl (by kernel_rfl)
              refine coreS.dry E_ok (by kernel_rfl) 12 rfl rfl (by kernel_rfl) (by kernel_rfl) ?_
              simp [encCirc_eq, encNotes_eq, noteL_map, encNote_eq, zn, h15, ey, wk, h1, ex, hx, wp]
              repeat refine ⟨by first | omega | assumption | (simp only [maxLen]; omega) | (intros; omega) | decide, ?_⟩
              exact contS.mk (by simp [Weak, TW, T.plain, encCirc_eq, encNotes_eq, noteL_map, encNote_eq, zn]) h_ (by kernel_rfl)
            refine hK _ ?_
            clear hK K
            refine AWp.cond rfl (fun h78 => ?_) (fun h78 => ?_)
            · try simp at h78
              have hap : outK M k ++ forN M y.patron = outK M (k + 1) := by first | exact out_new hps (by omega) hx hy (by simpa using h78) | (obtain rfl : k = 0 := (by omega); exact out_first hps hy)
              have hapK : List.map encNote (outK M (k + 1)) = List.map encNote (outK M k) ++ List.map encNote (forN M y.patron) := by rw [← hap, List.map_append]
              -- region 21
              refine AWp.rend E_ok [0, 1, 2, 3, 6, 7, 8, 9, 10, 11, 12, 13, 15, 23, 33, 39, 55, 60, 78] fun K hK => ?_
              simp [encCirc_eq, encNotes_eq, noteL_map, encNote_eq, zn, h15, ey, wk, h1, ex, hx, wp]
              repeat refine ⟨by first | omega | assumption | (simp only [maxLen]; omega) | (intros; omega) | decide, ?_⟩
              refine meet.of (notice_For_d M y.patron (by omega)) ?_
              simp [encCirc_eq, encNotes_eq, noteL_map, encNote_eq, zn, h15, ey, wk, h1, ex, hx, wp]
              repeat refine ⟨by first | omega | assumption | (simp only [maxLen]; omega) | (intros; omega) | decide, ?_⟩
              refine hK _ ?_
              clear hK K
              repeat first | refine thenN ?_ | refine thenX ?_ | refine thenR ?_ | refine blockN ?_ | refine blockR ?_ | refine blockX ?_ | refine blockM rfl ?_
              -- region 19
              refine AWp.rend E_ok [0, 1, 2, 3, 6, 7, 8, 9, 10, 11, 12, 13, 15, 23, 33, 39, 55, 60, 78] fun K hK => ?_
              simp [encCirc_eq, encNotes_eq, noteL_map, encNote_eq, zn, h15, ey, wk, h1, ex, hx, wp]
              repeat refine ⟨by first | omega | assumption | (simp only [maxLen]; omega) | (intros; omega) | decide, ?_⟩
              refine hK _ ?_
              clear hK K
              repeat first | refine thenN ?_ | refine thenX ?_ | refine thenR ?_ | refine blockN ?_ | refine blockR ?_ | refine blockX ?_ | refine blockM rfl ?_
              refine ⟨⟨k + 1, by omega⟩, ?_, by dsimp only; omega⟩
              try dsimp only
              simp [Weak, TW, wk, hapK, noteL_map, encNote_eq, zn]
            · try simp at h78
              have hapK : List.map encNote (outK M (k + 1)) = List.map encNote (outK M k) := by rw [out_same (p := p) (by omega) hx hy (by simpa using h78)]
              refine AWp.skip ?_
              repeat first | refine thenN ?_ | refine thenX ?_ | refine thenR ?_ | refine blockN ?_ | refine blockR ?_ | refine blockX ?_ | refine blockM rfl ?_
              -- region 19
              refine AWp.rend E_ok [0, 1, 2, 3, 6, 7, 8, 9, 10, 11, 12, 13, 15, 23, 33, 39, 55, 60, 78] fun K hK => ?_
              simp [encCirc_eq, encNotes_eq, noteL_map, encNote_eq, zn, h15, ey, wk, h1, ex, hx, wp]
              repeat refine ⟨by first | omega | assumption | (simp only [maxLen]; omega) | (intros; omega) | decide, ?_⟩
              refine hK _ ?_
              clear hK K
              repeat first | refine thenN ?_ | refine thenX ?_ | refine thenR ?_ | refine blockN ?_ | refine blockR ?_ | refine blockX ?_ | refine blockM rfl ?_
              refine ⟨⟨k + 1, by omega⟩, ?_, by dsimp only; omega⟩
              try dsimp only
              simp [Weak, TW, wk, hapK, noteL_map, encNote_eq, zn]
        · try simp at h60
          have hfin : List.map encNote (outK M k) = List.map encNote M := by rw [show k = M.length by omega, out_all hps]
          have hlm2 : (L.length : Int) ≤ (M.length : Int) := by have := hsub.2; omega
          refine AWp.exit ?_
          repeat first | refine thenN ?_ | refine thenX ?_ | refine thenR ?_ | refine blockN ?_ | refine blockR ?_ | refine blockX ?_ | refine blockM rfl ?_
          -- region 22
          refine AWp.rseq E_ok [0, 1, 2, 3, 6, 7, 8, 9, 10, 11, 12, 13, 15, 23, 33, 39, 55, 60, 78] fun K hK => ?_
          simp [encCirc_eq, encNotes_eq, noteL_map, encNote_eq, zn, h15, hfin, hlm2]
          repeat refine ⟨by first | omega | assumption | (simp only [maxLen]; omega) | (intros; omega) | decide, ?_⟩
          refine meet.of (ref35_Same M M (by omega)) ?_
          simp [encCirc_eq, encNotes_eq, noteL_map, encNote_eq, zn, h15, hfin, hlm2]
          repeat refine ⟨by first | omega | assumption | (simp only [maxLen]; omega) | (intros; omega) | decide, ?_⟩
          refine hK _ ?_
          clear hK K
          refine AWp.ret ?_
          repeat first | refine thenN ?_ | refine thenX ?_ | refine thenR ?_ | refine blockN ?_ | refine blockR ?_ | refine blockX ?_ | refine blockM rfl ?_
          simp [RetOk, RV]
end Go.Proofs.YtjpjndfdncalfaaDoor
