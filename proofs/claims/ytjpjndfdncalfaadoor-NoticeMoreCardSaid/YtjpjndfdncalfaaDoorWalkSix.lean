/-
  What the functions compute that the statement reaches: contracts, and the plain laws between them. Conditions stand at each theorem.
-/
import Derived.Test.YtjpjndfdncalfaaDoorWalkFive
set_option linter.unusedVariables false
set_option linter.unusedSimpArgs false
set_option maxRecDepth 100000
set_option linter.unusedSimpArgs false
set_option linter.unusedVariables false
namespace Go.Proofs.YtjpjndfdncalfaaDoor
open Go Ab Pl
attribute [local simp] encCirc_eq encItms_eq encItm_eq zItm encPatrs_eq encPatr_eq zPatr encLoans_eq encLoan_eq zLoan encHlds_eq encHld_eq zHld encCharges_eq encCharge_eq z0 encRules_eq encRule_eq zr encInts_eq encMoves_eq encMove_eq zm cEx encNotes_eq noteL_map encNote_eq zn encCnt_eq
@[simp] noncomputable def zt9x1 : List C := [C.d (D.int IntKind.i64 (100 : Int)), C.d ((D.agg [D.int IntKind.i64 (0 : Int), D.int IntKind.i64 (0 : Int), D.int IntKind.i64 (0 : Int), D.int IntKind.i64 (0 : Int), D.int IntKind.i64 (0 : Int), D.str [], D.int IntKind.i64 (0 : Int), D.int IntKind.i64 (0 : Int), D.int IntKind.i64 (0 : Int), D.int IntKind.i64 (0 : Int)]).slice []), C.d ((D.agg [D.int IntKind.i64 (0 : Int), D.int IntKind.i64 (0 : Int), D.int IntKind.i64 (0 : Int), D.int IntKind.i64 (0 : Int), D.bool false, D.str []]).slice []), C.d ((D.agg [D.int IntKind.i64 (0 : Int), D.int IntKind.i64 (0 : Int), D.int IntKind.i64 (0 : Int), D.int IntKind.i64 (0 : Int), D.int IntKind.i64 (0 : Int), D.bool false]).slice [D.agg [D.int IntKind.i64 (2 : Int), D.int IntKind.i64 (5 : Int), D.int IntKind.i64 (80 : Int), D.int IntKind.i64 (99 : Int), D.int IntKind.i64 (0 : Int), D.bool true], D.agg [D.int IntKind.i64 (3 : Int), D.int IntKind.i64 (5 : Int), D.int IntKind.i64 (80 : Int), D.int IntKind.i64 (103 : Int), D.int IntKind.i64 (0 : Int), D.bool false]]), C.d ((D.agg [D.int IntKind.i64 (0 : Int), D.int IntKind.i64 (0 : Int), D.int IntKind.i64 (0 : Int), D.int IntKind.i64 (0 : Int), D.int IntKind.i64 (0 : Int), D.int IntKind.i64 (0 : Int), D.int IntKind.i64 (0 : Int), D.int IntKind.i64 (0 : Int), D.int IntKind.i64 (0 : Int), D.int IntKind.i64 (0 : Int), D.int IntKind.i64 (0 : Int)]).slice []), C.d ((D.agg [D.int IntKind.i64 (0 : Int), D.int IntKind.i64 (0 : Int), D.int IntKind.i64 (0 : Int), D.int IntKind.i64 (0 : Int), D.int IntKind.i64 (0 : Int), D.int IntKind.i64 (0 : Int), D.int IntKind.i64 (0 : Int)]).slice []), C.d ((D.agg [D.int IntKind.i64 (0 : Int), D.int IntKind.i64 (0 : Int), D.int IntKind.i64 (0 : Int), D.int IntKind.i64 (0 : Int), D.int IntKind.i64 (0 : Int), D.int IntKind.i64 (0 : Int), D.int IntKind.i64 (0 : Int), D.int IntKind.i64 (0 : Int), D.int IntKind.i64 (0 : Int), D.int IntKind.i64 (0 : Int), D.int IntKind.i64 (0 : Int), D.int IntKind.i64 (0 : Int), D.int IntKind.i64 (0 : Int)]).slice []), C.d (D.int IntKind.i64 (0 : Int)), C.d ((D.int IntKind.i64 (0 : Int)).slice []), C.d (D.int IntKind.i64 (0 : Int)), C.d ((D.int IntKind.i64 (0 : Int)).slice []), C.d (D.int IntKind.i64 (0 : Int)), C.d ((D.int IntKind.i64 (0 : Int)).slice []), C.d (D.int IntKind.i64 (0 : Int)), C.d ((D.int IntKind.i64 (0 : Int)).slice []), C.d ((D.agg [D.int IntKind.i64 (0 : Int), D.int IntKind.i64 (0 : Int), D.int IntKind.i64 (0 : Int), D.int IntKind.i64 (0 : Int), D.int IntKind.i64 (0 : Int)]).slice []), C.d (D.int IntKind.i64 (0 : Int)), C.d (D.int IntKind.i64 (0 : Int)), C.d (D.bool false)]
@[simp] noncomputable def zt9x2 : D := (D.agg [D.int IntKind.i64 (100 : Int), (D.agg [D.int IntKind.i64 (0 : Int), D.int IntKind.i64 (0 : Int), D.int IntKind.i64 (0 : Int), D.int IntKind.i64 (0 : Int), D.int IntKind.i64 (0 : Int), D.str [], D.int IntKind.i64 (0 : Int), D.int IntKind.i64 (0 : Int), D.int IntKind.i64 (0 : Int), D.int IntKind.i64 (0 : Int)]).slice [], (D.agg [D.int IntKind.i64 (0 : Int), D.int IntKind.i64 (0 : Int), D.int IntKind.i64 (0 : Int), D.int IntKind.i64 (0 : Int), D.bool false, D.str []]).slice [], (D.agg [D.int IntKind.i64 (0 : Int), D.int IntKind.i64 (0 : Int), D.int IntKind.i64 (0 : Int), D.int IntKind.i64 (0 : Int), D.int IntKind.i64 (0 : Int), D.bool false]).slice [D.agg [D.int IntKind.i64 (2 : Int), D.int IntKind.i64 (5 : Int), D.int IntKind.i64 (80 : Int), D.int IntKind.i64 (99 : Int), D.int IntKind.i64 (0 : Int), D.bool true], D.agg [D.int IntKind.i64 (3 : Int), D.int IntKind.i64 (5 : Int), D.int IntKind.i64 (80 : Int), D.int IntKind.i64 (103 : Int), D.int IntKind.i64 (0 : Int), D.bool false]], (D.agg [D.int IntKind.i64 (0 : Int), D.int IntKind.i64 (0 : Int), D.int IntKind.i64 (0 : Int), D.int IntKind.i64 (0 : Int), D.int IntKind.i64 (0 : Int), D.int IntKind.i64 (0 : Int), D.int IntKind.i64 (0 : Int), D.int IntKind.i64 (0 : Int), D.int IntKind.i64 (0 : Int), D.int IntKind.i64 (0 : Int), D.int IntKind.i64 (0 : Int)]).slice [], (D.agg [D.int IntKind.i64 (0 : Int), D.int IntKind.i64 (0 : Int), D.int IntKind.i64 (0 : Int), D.int IntKind.i64 (0 : Int), D.int IntKind.i64 (0 : Int), D.int IntKind.i64 (0 : Int), D.int IntKind.i64 (0 : Int)]).slice [], (D.agg [D.int IntKind.i64 (0 : Int), D.int IntKind.i64 (0 : Int), D.int IntKind.i64 (0 : Int), D.int IntKind.i64 (0 : Int), D.int IntKind.i64 (0 : Int), D.int IntKind.i64 (0 : Int), D.int IntKind.i64 (0 : Int), D.int IntKind.i64 (0 : Int), D.int IntKind.i64 (0 : Int), D.int IntKind.i64 (0 : Int), D.int IntKind.i64 (0 : Int), D.int IntKind.i64 (0 : Int), D.int IntKind.i64 (0 : Int)]).slice [], D.int IntKind.i64 (0 : Int), (D.int IntKind.i64 (0 : Int)).slice [], D.int IntKind.i64 (0 : Int), (D.int IntKind.i64 (0 : Int)).slice [], D.int IntKind.i64 (0 : Int), (D.int IntKind.i64 (0 : Int)).slice [], D.int IntKind.i64 (0 : Int), (D.int IntKind.i64 (0 : Int)).slice [], (D.agg [D.int IntKind.i64 (0 : Int), D.int IntKind.i64 (0 : Int), D.int IntKind.i64 (0 : Int), D.int IntKind.i64 (0 : Int), D.int IntKind.i64 (0 : Int)]).slice [], D.int IntKind.i64 (0 : Int), D.int IntKind.i64 (0 : Int), D.bool false])
@[simp] noncomputable def zt9x3 : List C := [C.d (D.int IntKind.i64 (2 : Int)), C.d (D.int IntKind.i64 (5 : Int)), C.d (D.int IntKind.i64 (2 : Int)), C.d (D.int IntKind.i64 (46340 : Int))]
@[simp] noncomputable def zt9x4 : List C := [C.d (D.int IntKind.i64 (1 : Int)), C.d (D.int IntKind.i64 (5 : Int)), C.d (D.int IntKind.i64 (3 : Int)), C.d (D.int IntKind.i64 (103 : Int))]
@[simp] noncomputable def zt9x5 : List C := [C.d (D.int IntKind.i64 (2 : Int)), C.d (D.int IntKind.i64 (5 : Int)), C.d (D.int IntKind.i64 (2 : Int)), C.d (D.int IntKind.i64 (99 : Int))]
@[simp] noncomputable def zt9x6 : List C := [C.d (D.int IntKind.i64 (4 : Int)), C.d (D.int IntKind.i64 (5 : Int)), C.d (D.int IntKind.i64 (2 : Int)), C.d (D.int IntKind.i64 (99 : Int))]
@[simp] noncomputable def zt9x8 : List D := [D.int IntKind.i64 (2 : Int), D.int IntKind.i64 (5 : Int), D.int IntKind.i64 (2 : Int), D.int IntKind.i64 (99 : Int)]
@[simp] noncomputable def zt9x9 : List D := [D.int IntKind.i64 (4 : Int), D.int IntKind.i64 (5 : Int), D.int IntKind.i64 (2 : Int), D.int IntKind.i64 (99 : Int)]
@[simp] noncomputable def zt9x10 : List D := [D.int IntKind.i64 (1 : Int), D.int IntKind.i64 (5 : Int), D.int IntKind.i64 (3 : Int), D.int IntKind.i64 (103 : Int)]
@[simp] noncomputable def zt9x11 : D := (D.agg [D.int IntKind.i64 (0 : Int), D.int IntKind.i64 (0 : Int), D.int IntKind.i64 (0 : Int), D.int IntKind.i64 (0 : Int)])
@[simp] noncomputable def zt9x7 : T := (T.val ((zt9x11).slice [D.agg (zt9x10), D.agg (zt9x8), D.agg (zt9x9)]))
@[simp] noncomputable def zt9x12 : List D := [D.int IntKind.i64 (2 : Int), D.int IntKind.i64 (5 : Int), D.int IntKind.i64 (2 : Int), D.int IntKind.i64 (46340 : Int)]
@[simp] noncomputable def zt9x13 : T := (T.val (D.agg [D.int IntKind.i64 (1 : Int), D.int IntKind.i64 (0 : Int), D.int IntKind.i64 (2 : Int), D.int IntKind.i64 (0 : Int), D.int IntKind.i64 (0 : Int)]))
@[simp] noncomputable def zt9x14 : List D := [D.int IntKind.i64 (9 : Int), D.int IntKind.i64 (0 : Int), D.int IntKind.i64 (0 : Int), D.int IntKind.i64 (0 : Int)]
set_option maxHeartbeats 8000000 in
theorem law35_alive  : ACalls E.P 9 [] (.d (.bool true)) := by
  refine ACalls.intro E_ok Tryd.func9 rfl rfl Tryd.ntmps9 Tryd.results9 (Nat.le_of_ble_eq_true rfl) fun hok base S0 w0 => ?_
  -- region 0
  refine AWp.rseq E_ok [0, 1, 2, 3, 4, 5] fun K hK => ?_
  simp
  repeat refine ⟨by first | omega | assumption | (simp only [maxLen]; omega) | (intros; omega) | decide, ?_⟩
  refine hK _ ?_
  clear hK K
  -- region 1
  refine AWp.rseq E_ok [0, 1, 2, 3, 4, 5] fun K hK => ?_
  simp
  repeat refine ⟨by first | omega | assumption | (simp only [maxLen]; omega) | (intros; omega) | decide, ?_⟩
  refine hK _ ?_
  clear hK K
  -- region 2
  refine AWp.rseq E_ok [0, 1, 2, 3, 4, 5] fun K hK => ?_
  simp
  repeat refine ⟨by first | omega | assumption | (simp only [maxLen]; omega) | (intros; omega) | decide, ?_⟩
  refine hK _ ?_
  clear hK K
  -- region 3
  refine AWp.rseq E_ok [0, 1, 2, 3, 4, 5] fun K hK => ?_
  simp
  repeat refine ⟨by first | omega | assumption | (simp only [maxLen]; omega) | (intros; omega) | decide, ?_⟩
  refine hK _ ?_
  clear hK K
  -- region 4
  refine AWp.rseq E_ok [0, 1, 2, 3, 4, 5] fun K hK => ?_
  simp
  repeat refine ⟨by first | omega | assumption | (simp only [maxLen]; omega) | (intros; omega) | decide, ?_⟩
  refine hK _ ?_
  clear hK K
  -- region 5
  refine AWp.rseq E_ok [0, 1, 2, 3, 4, 5] fun K hK => ?_
  simp
  repeat refine ⟨by first | omega | assumption | (simp only [maxLen]; omega) | (intros; omega) | decide, ?_⟩
  refine hK _ ?_
  clear hK K
  -- region 6, every order
  refine AWp.rseqS E_ok mixed [0, 1, 2, 3, 4, 5] (n := 31) (l := #[false, false, false, false, false, false, false, false, false, false, false, false, false, false, false, false, false, false, false, false, false, false, false, false, false, false, false, false, false, false, false]) rfl (by kernel_rfl) fun K hK => ?_
  suffices hnext : K [(0, T.val (D.bool true)), (1, T.box (zt9x1)), (2, T.box (zt9x5)), (3, T.box (zt9x6)), (4, T.box (zt9x4)), (5, T.box (zt9x3))] by
    refine contS.cut 0 #[true, true, true, true, true, true, true, true, true, true, true, true, true, true, true, true, true, true, true, true, true, true, true, true, true, true, true, true, true, true, true] [(0, T.val (D.bool true)), (1, T.box (zt9x1)), (2, T.box (zt9x5)), (3, T.box (zt9x6)), (4, T.box (zt9x4)), (5, T.box (zt9x3))] ?_ fun h_0_1_2_3_4_5_7_8_9_10_11_12_13_16_17_18_22_24_25_26_ => ?_
    · skip
      refine coreS.nil (by kernel_rfl) ?_
      simpa [encCirc_eq, encItms_eq, encItm_eq, zItm, encPatrs_eq, encPatr_eq, zPatr, encLoans_eq, encLoan_eq, zLoan, encHlds_eq, encHld_eq, zHld, encCharges_eq, encCharge_eq, z0, encRules_eq, encRule_eq, zr, encInts_eq, encMoves_eq, encMove_eq, zm, cEx, encNotes_eq, noteL_map, encNote_eq, zn, encCnt_eq] using hnext
    refine contS.cut 4 #[true, true, true, true, true, true, true, true, true, true, true, true, true, true, true, true, true, true, true, true, true, true, true, true, true, true, false, true, false, false, false] [(0, T.val (D.bool false)), (1, T.box (zt9x1)), (2, T.box (zt9x5)), (3, T.box (zt9x6)), (4, T.box (zt9x4)), (5, T.box (zt9x3)), (35, T.val (D.bool true)), (39, T.own true (zt9x11) [D.agg (zt9x12), D.agg (zt9x14), D.agg (zt9x12)]), (41, T.opt [true] (zt9x13))] ?_ fun h_0_1_2_3_4_5_7_8_9_10_11_12_13_16_17_18_22_24_25 => ?_
    · skip
      refine coreS.step E_ok [26] (by kernel_rfl) (by simp) ?_
      refine anyS.cons rfl ?_ ?_
      · skip
        simp
        repeat refine ⟨by decide, ?_⟩
        refine meet.of (notice_Count_x [⟨2, 5, 2, 46340⟩, ⟨9, 0, 0, 0⟩, ⟨2, 5, 2, 46340⟩] _ (by decide) cnt_ex) ?_
        simp
        repeat refine ⟨by decide, ?_⟩
        refine contS.now (f' := 3) (l' := #[true, true, true, true, true, true, true, true, true, true, true, true, true, true, true, true, true, true, true, true, true, true, true, true, true, true, true, true, false, false, false]) ?_ rfl (by kernel_rfl)
        refine coreS.dry E_ok (by kernel_rfl) 28 rfl rfl (by kernel_rfl) (by kernel_rfl) ?_
        simp
        repeat refine ⟨by decide, ?_⟩
        refine contS.now (f' := 2) (l' := #[true, true, true, true, true, true, true, true, true, true, true, true, true, true, true, true, true, true, true, true, true, true, true, true, true, true, true, true, true, false, false]) ?_ rfl (by kernel_rfl)
        refine coreS.dry E_ok (by kernel_rfl) 29 rfl rfl (by kernel_rfl) (by kernel_rfl) ?_
        simp
        repeat refine ⟨by decide, ?_⟩
        refine contS.now (f' := 1) (l' := #[true, true, true, true, true, true, true, true, true, true, true, true, true, true, true, true, true, true, true, true, true, true, true, true, true, true, true, true, true, true, false]) ?_ rfl (by kernel_rfl)
        refine coreS.dry E_ok (by kernel_rfl) 30 rfl rfl (by kernel_rfl) (by kernel_rfl) ?_
        simp
        repeat refine ⟨by decide, ?_⟩
        exact contS.mk (by simp [Weak, TW, T.plain]) h_0_1_2_3_4_5_7_8_9_10_11_12_13_16_17_18_22_24_25_26_ (by kernel_rfl)
      exact anyS.nil
    refine contS.cut 5 #[true, true, true, true, true, true, true, true, true, true, true, true, true, true, true, true, true, true, true, true, true, true, true, true, true, false, false, true, false, false, false] [(0, T.val (D.bool false)), (1, T.box (zt9x1)), (2, T.box (zt9x5)), (3, T.box (zt9x6)), (4, T.box (zt9x4)), (5, T.box (zt9x3)), (35, T.val (D.bool true)), (36, T.opt [true] (T.val (D.agg (zt9x12)))), (37, T.opt [true] (T.val (D.agg (zt9x14)))), (38, T.opt [true] (T.val (D.agg (zt9x12)))), (41, T.opt [true] (zt9x13))] ?_ fun h_0_1_2_3_4_5_7_8_9_10_11_12_13_16_17_18_22_24 => ?_
    · skip
      refine coreS.step E_ok [25] (by kernel_rfl) (by simp) ?_
      refine anyS.cons rfl ?_ ?_
      · skip
        simp
        repeat refine ⟨by decide, ?_⟩
        exact contS.mk (by simp [Weak, TW, T.plain]) h_0_1_2_3_4_5_7_8_9_10_11_12_13_16_17_18_22_24_25 (by kernel_rfl)
      exact anyS.nil
    refine contS.cut 6 #[true, true, true, true, true, true, true, true, true, true, true, true, true, true, true, true, true, true, true, true, true, true, true, true, false, false, false, true, false, false, false] [(0, T.val (D.bool false)), (1, T.box (zt9x1)), (2, T.box (zt9x5)), (3, T.box (zt9x6)), (4, T.box (zt9x4)), (5, T.box (zt9x3)), (35, T.val (D.bool true)), (36, T.opt [true] (T.val (D.agg (zt9x12)))), (37, T.opt [true] (T.val (D.agg (zt9x14)))), (41, T.opt [true] (zt9x13))] ?_ fun h_0_1_2_3_4_5_7_8_9_10_11_12_13_16_17_18_22 => ?_
    · skip
      refine coreS.step E_ok [24] (by kernel_rfl) (by simp) ?_
      refine anyS.cons rfl ?_ ?_
      · skip
        simp
        repeat refine ⟨by decide, ?_⟩
        exact contS.mk (by simp [Weak, TW, T.plain]) h_0_1_2_3_4_5_7_8_9_10_11_12_13_16_17_18_22_24 (by kernel_rfl)
      exact anyS.nil
    refine contS.cut 6 #[true, true, true, true, true, true, true, true, true, true, true, true, true, true, true, true, true, true, true, true, true, true, false, true, true, false, false, true, false, false, false] [(0, T.val (D.bool false)), (1, T.box (zt9x1)), (2, T.box (zt9x5)), (3, T.box (zt9x6)), (4, T.box (zt9x4)), (5, T.box (zt9x3)), (35, T.val (D.bool true)), (37, T.opt [true] (T.val (D.agg (zt9x14)))), (38, T.opt [true] (T.val (D.agg (zt9x12)))), (41, T.opt [true] (zt9x13))] ?_ fun h_0_1_2_3_4_5_7_8_9_10_11_12_13_16_17_18_24 => ?_
    · skip
      refine coreS.step E_ok [22] (by kernel_rfl) (by simp) ?_
      refine anyS.cons rfl ?_ ?_
      · skip
        simp
        repeat refine ⟨by decide, ?_⟩
        exact contS.mk (by simp [Weak, TW, T.plain]) h_0_1_2_3_4_5_7_8_9_10_11_12_13_16_17_18_22_24 (by kernel_rfl)
      exact anyS.nil
    refine contS.cut 7 #[true, true, true, true, true, true, true, true, true, true, true, true, true, true, true, true, true, true, true, true, true, true, false, true, false, false, false, true, false, false, false] [(0, T.val (D.bool false)), (1, T.box (zt9x1)), (2, T.box (zt9x5)), (3, T.box (zt9x6)), (4, T.box (zt9x4)), (5, T.box (zt9x3)), (35, T.val (D.bool true)), (37, T.opt [true] (T.val (D.agg (zt9x14)))), (41, T.opt [true] (zt9x13))] ?_ fun h_0_1_2_3_4_5_7_8_9_10_11_12_13_16_17_18 => ?_
    · skip
      refine coreS.step E_ok [22, 24] (by kernel_rfl) (by simp) ?_
      refine anyS.cons rfl ?_ ?_
      · skip
        simp
        repeat refine ⟨by decide, ?_⟩
        exact contS.mk (by simp [Weak, TW, T.plain]) h_0_1_2_3_4_5_7_8_9_10_11_12_13_16_17_18_22 (by kernel_rfl)
      refine anyS.cons rfl ?_ ?_
      · skip
        simp
        repeat refine ⟨by decide, ?_⟩
        exact contS.mk (by simp [Weak, TW, T.plain]) h_0_1_2_3_4_5_7_8_9_10_11_12_13_16_17_18_24 (by kernel_rfl)
      exact anyS.nil
    refine contS.cut 13 #[true, true, true, true, true, true, true, true, true, true, true, true, true, true, true, true, true, true, false, false, false, false, false, false, false, false, false, false, false, false, false] [(0, T.val (D.bool false)), (1, T.box (zt9x1)), (2, T.box (zt9x5)), (3, T.box (zt9x6)), (4, T.box (zt9x4)), (5, T.box (zt9x3)), (29, T.val (D.bool true)), (30, T.opt [true] (T.val (zt9x2))), (31, T.opt [true] (T.val (D.agg (zt9x12))))] ?_ fun h_0_1_2_3_4_5_7_8_9_10_11_12_13_16_17 => ?_
    · skip
      refine coreS.step E_ok [18] (by kernel_rfl) (by simp) ?_
      refine anyS.cons rfl ?_ ?_
      · skip
        simp
        repeat refine ⟨by decide, ?_⟩
        refine meet.of (notice_Text_x cEx ⟨2, 5, 2, 46340⟩ _ (fun p h => by cases h) text_ex) ?_
        simp
        repeat refine ⟨by decide, ?_⟩
        refine contS.now (f' := 12) (l' := #[true, true, true, true, true, true, true, true, true, true, true, true, true, true, true, true, true, true, true, false, false, false, false, false, false, false, false, false, false, false, false]) ?_ rfl (by kernel_rfl)
        refine coreS.dry E_ok (by kernel_rfl) 19 rfl rfl (by kernel_rfl) (by kernel_rfl) ?_
        simp
        repeat refine ⟨by decide, ?_⟩
        refine contS.now (f' := 11) (l' := #[true, true, true, true, true, true, true, true, true, true, true, true, true, true, true, true, true, true, true, true, false, false, false, false, false, false, false, false, false, false, false]) ?_ rfl (by kernel_rfl)
        refine coreS.dry E_ok (by kernel_rfl) 20 rfl rfl (by kernel_rfl) (by kernel_rfl) ?_
        simp
        repeat refine ⟨by decide, ?_⟩
        refine contS.now (f' := 10) (l' := #[true, true, true, true, true, true, true, true, true, true, true, true, true, true, true, true, true, true, true, true, true, false, false, false, false, false, false, false, false, false, false]) ?_ rfl (by kernel_rfl)
        refine coreS.dry E_ok (by kernel_rfl) 21 rfl rfl (by kernel_rfl) (by kernel_rfl) ?_
        simp
        repeat refine ⟨by decide, ?_⟩
        refine contS.now (f' := 9) (l' := #[true, true, true, true, true, true, true, true, true, true, true, true, true, true, true, true, true, true, true, true, true, true, false, false, false, false, false, false, false, false, false]) ?_ rfl (by kernel_rfl)
        refine coreS.dry E_ok (by kernel_rfl) 23 rfl rfl (by kernel_rfl) (by kernel_rfl) ?_
        simp
        repeat refine ⟨by decide, ?_⟩
        refine contS.now (f' := 8) (l' := #[true, true, true, true, true, true, true, true, true, true, true, true, true, true, true, true, true, true, true, true, true, true, false, true, false, false, false, false, false, false, false]) ?_ rfl (by kernel_rfl)
        refine coreS.dry E_ok (by kernel_rfl) 27 rfl rfl (by kernel_rfl) (by kernel_rfl) ?_
        simp
        repeat refine ⟨by decide, ?_⟩
        exact contS.mk (by simp [Weak, TW, T.plain]) h_0_1_2_3_4_5_7_8_9_10_11_12_13_16_17_18 (by kernel_rfl)
      exact anyS.nil
    refine contS.cut 14 #[true, true, true, true, true, true, true, true, true, true, true, true, true, true, true, true, true, false, false, false, false, false, false, false, false, false, false, false, false, false, false] [(0, T.val (D.bool false)), (1, T.box (zt9x1)), (2, T.box (zt9x5)), (3, T.box (zt9x6)), (4, T.box (zt9x4)), (5, T.box (zt9x3)), (29, T.val (D.bool true)), (30, T.opt [true] (T.val (zt9x2)))] ?_ fun h_0_1_2_3_4_5_7_8_9_10_11_12_13_16 => ?_
    · skip
      refine coreS.step E_ok [17] (by kernel_rfl) (by simp) ?_
      refine anyS.cons rfl ?_ ?_
      · skip
        simp
        repeat refine ⟨by decide, ?_⟩
        exact contS.mk (by simp [Weak, TW, T.plain]) h_0_1_2_3_4_5_7_8_9_10_11_12_13_16_17 (by kernel_rfl)
      exact anyS.nil
    refine contS.cut 14 #[true, true, true, true, true, true, true, true, true, true, true, true, true, true, true, true, false, true, false, false, false, false, false, false, false, false, false, false, false, false, false] [(0, T.val (D.bool false)), (1, T.box (zt9x1)), (2, T.box (zt9x5)), (3, T.box (zt9x6)), (4, T.box (zt9x4)), (5, T.box (zt9x3)), (29, T.val (D.bool true)), (31, T.opt [true] (T.val (D.agg (zt9x12))))] ?_ fun h_0_1_2_3_4_5_7_8_9_10_11_12_13_17 => ?_
    · skip
      refine coreS.step E_ok [16] (by kernel_rfl) (by simp) ?_
      refine anyS.cons rfl ?_ ?_
      · skip
        simp
        repeat refine ⟨by decide, ?_⟩
        exact contS.mk (by simp [Weak, TW, T.plain]) h_0_1_2_3_4_5_7_8_9_10_11_12_13_16_17 (by kernel_rfl)
      exact anyS.nil
    refine contS.cut 15 #[true, true, true, true, true, true, true, true, true, true, true, true, true, true, true, true, false, false, false, false, false, false, false, false, false, false, false, false, false, false, false] [(0, T.val (D.bool false)), (1, T.box (zt9x1)), (2, T.box (zt9x5)), (3, T.box (zt9x6)), (4, T.box (zt9x4)), (5, T.box (zt9x3)), (29, T.val (D.bool true))] ?_ fun h_0_1_2_3_4_5_7_8_9_10_11_12_13 => ?_
    · skip
      refine coreS.step E_ok [16, 17] (by kernel_rfl) (by simp) ?_
      refine anyS.cons rfl ?_ ?_
      · skip
        simp
        repeat refine ⟨by decide, ?_⟩
        exact contS.mk (by simp [Weak, TW, T.plain]) h_0_1_2_3_4_5_7_8_9_10_11_12_13_16 (by kernel_rfl)
      refine anyS.cons rfl ?_ ?_
      · skip
        simp
        repeat refine ⟨by decide, ?_⟩
        exact contS.mk (by simp [Weak, TW, T.plain]) h_0_1_2_3_4_5_7_8_9_10_11_12_13_17 (by kernel_rfl)
      exact anyS.nil
    refine contS.cut 18 #[true, true, true, true, true, true, true, true, true, true, true, true, true, false, false, false, false, false, false, false, false, false, false, false, false, false, false, false, false, false, false] [(0, T.val (D.bool false)), (1, T.box (zt9x1)), (2, T.box (zt9x5)), (3, T.box (zt9x6)), (4, T.box (zt9x4)), (5, T.box (zt9x3)), (20, T.val (D.bool true)), (22, T.opt [true] (zt9x7)), (26, T.own true (zt9x11) [D.agg (zt9x10), D.agg (zt9x8), D.agg (zt9x9)])] ?_ fun h_0_1_2_3_4_5_7_8_9_10_11_12 => ?_
    · skip
      refine coreS.step E_ok [13] (by kernel_rfl) (by simp) ?_
      refine anyS.cons rfl ?_ ?_
      · skip
        simp
        repeat refine ⟨by decide, ?_⟩
        refine meet.of (ref35_Same [⟨1, 5, 3, 103⟩, ⟨2, 5, 2, 99⟩, ⟨4, 5, 2, 99⟩] [⟨1, 5, 3, 103⟩, ⟨2, 5, 2, 99⟩, ⟨4, 5, 2, 99⟩] (by decide)) ?_
        simp
        repeat refine ⟨by decide, ?_⟩
        refine contS.now (f' := 17) (l' := #[true, true, true, true, true, true, true, true, true, true, true, true, true, true, false, false, false, false, false, false, false, false, false, false, false, false, false, false, false, false, false]) ?_ rfl (by kernel_rfl)
        refine coreS.dry E_ok (by kernel_rfl) 14 rfl rfl (by kernel_rfl) (by kernel_rfl) ?_
        simp
        repeat refine ⟨by decide, ?_⟩
        refine contS.now (f' := 16) (l' := #[true, true, true, true, true, true, true, true, true, true, true, true, true, true, true, false, false, false, false, false, false, false, false, false, false, false, false, false, false, false, false]) ?_ rfl (by kernel_rfl)
        refine coreS.dry E_ok (by kernel_rfl) 15 rfl rfl (by kernel_rfl) (by kernel_rfl) ?_
        simp
        repeat refine ⟨by decide, ?_⟩
        exact contS.mk (by simp [Weak, TW, T.plain]) h_0_1_2_3_4_5_7_8_9_10_11_12_13 (by kernel_rfl)
      exact anyS.nil
    refine contS.cut 19 #[true, true, true, true, true, true, true, true, true, true, true, true, false, false, false, false, false, false, false, false, false, false, false, false, false, false, false, false, false, false, false] [(0, T.val (D.bool false)), (1, T.box (zt9x1)), (2, T.box (zt9x5)), (3, T.box (zt9x6)), (4, T.box (zt9x4)), (5, T.box (zt9x3)), (20, T.val (D.bool true)), (22, T.opt [true] (zt9x7)), (23, T.opt [true] (T.val (D.agg (zt9x10)))), (24, T.opt [true] (T.val (D.agg (zt9x8)))), (25, T.opt [true] (T.val (D.agg (zt9x9))))] ?_ fun h_0_1_2_3_4_5_7_8_9_10_11 => ?_
    · skip
      refine coreS.step E_ok [12] (by kernel_rfl) (by simp) ?_
      refine anyS.cons rfl ?_ ?_
      · skip
        simp
        repeat refine ⟨by decide, ?_⟩
        exact contS.mk (by simp [Weak, TW, T.plain]) h_0_1_2_3_4_5_7_8_9_10_11_12 (by kernel_rfl)
      exact anyS.nil
    refine contS.cut 19 #[true, true, true, true, true, true, true, true, false, true, true, true, true, false, false, false, false, false, false, false, false, false, false, false, false, false, false, false, false, false, false] [(0, T.val (D.bool false)), (1, T.box (zt9x1)), (2, T.box (zt9x5)), (3, T.box (zt9x6)), (4, T.box (zt9x4)), (5, T.box (zt9x3)), (20, T.val (D.bool true)), (21, T.opt [true] (T.val (zt9x2))), (26, T.own true (zt9x11) [D.agg (zt9x10), D.agg (zt9x8), D.agg (zt9x9)])] ?_ fun h_0_1_2_3_4_5_7_9_10_11_12 => ?_
    · skip
      refine coreS.step E_ok [8] (by kernel_rfl) (by simp) ?_
      refine anyS.cons rfl ?_ ?_
      · skip
        simp
        repeat refine ⟨by decide, ?_⟩
        refine meet.of (notice_Due_x cEx 3 _ (by decide) (by decide) due_ex3) ?_
        simp
        repeat refine ⟨by decide, ?_⟩
        exact contS.mk (by simp [Weak, TW, T.plain]) h_0_1_2_3_4_5_7_8_9_10_11_12 (by kernel_rfl)
      exact anyS.nil
    refine contS.cut 20 #[true, true, true, true, true, true, true, true, true, true, true, false, false, false, false, false, false, false, false, false, false, false, false, false, false, false, false, false, false, false, false] [(0, T.val (D.bool false)), (1, T.box (zt9x1)), (2, T.box (zt9x5)), (3, T.box (zt9x6)), (4, T.box (zt9x4)), (5, T.box (zt9x3)), (20, T.val (D.bool true)), (22, T.opt [true] (zt9x7)), (23, T.opt [true] (T.val (D.agg (zt9x10)))), (24, T.opt [true] (T.val (D.agg (zt9x8))))] ?_ fun h_0_1_2_3_4_5_7_8_9_10 => ?_
    · skip
      refine coreS.step E_ok [11] (by kernel_rfl) (by simp) ?_
      refine anyS.cons rfl ?_ ?_
      · skip
        simp
        repeat refine ⟨by decide, ?_⟩
        exact contS.mk (by simp [Weak, TW, T.plain]) h_0_1_2_3_4_5_7_8_9_10_11 (by kernel_rfl)
      exact anyS.nil
    refine contS.cut 20 #[true, true, true, true, true, true, true, true, true, true, false, true, false, false, false, false, false, false, false, false, false, false, false, false, false, false, false, false, false, false, false] [(0, T.val (D.bool false)), (1, T.box (zt9x1)), (2, T.box (zt9x5)), (3, T.box (zt9x6)), (4, T.box (zt9x4)), (5, T.box (zt9x3)), (20, T.val (D.bool true)), (22, T.opt [true] (zt9x7)), (23, T.opt [true] (T.val (D.agg (zt9x10)))), (25, T.opt [true] (T.val (D.agg (zt9x9))))] ?_ fun h_0_1_2_3_4_5_7_8_9_11 => ?_
    · skip
      refine coreS.step E_ok [10] (by kernel_rfl) (by simp) ?_
      refine anyS.cons rfl ?_ ?_
      · skip
        simp
        repeat refine ⟨by decide, ?_⟩
        exact contS.mk (by simp [Weak, TW, T.plain]) h_0_1_2_3_4_5_7_8_9_10_11 (by kernel_rfl)
      exact anyS.nil
    refine contS.cut 20 #[true, true, true, true, true, true, true, true, true, false, true, true, false, false, false, false, false, false, false, false, false, false, false, false, false, false, false, false, false, false, false] [(0, T.val (D.bool false)), (1, T.box (zt9x1)), (2, T.box (zt9x5)), (3, T.box (zt9x6)), (4, T.box (zt9x4)), (5, T.box (zt9x3)), (20, T.val (D.bool true)), (22, T.opt [true] (zt9x7)), (24, T.opt [true] (T.val (D.agg (zt9x8)))), (25, T.opt [true] (T.val (D.agg (zt9x9))))] ?_ fun h_0_1_2_3_4_5_7_8_10_11 => ?_
    · skip
      refine coreS.step E_ok [9] (by kernel_rfl) (by simp) ?_
      refine anyS.cons rfl ?_ ?_
      · skip
        simp
        repeat refine ⟨by decide, ?_⟩
        exact contS.mk (by simp [Weak, TW, T.plain]) h_0_1_2_3_4_5_7_8_9_10_11 (by kernel_rfl)
      exact anyS.nil
    refine contS.cut 20 #[true, true, true, true, true, true, true, true, false, true, true, true, false, false, false, false, false, false, false, false, false, false, false, false, false, false, false, false, false, false, false] [(0, T.val (D.bool false)), (1, T.box (zt9x1)), (2, T.box (zt9x5)), (3, T.box (zt9x6)), (4, T.box (zt9x4)), (5, T.box (zt9x3)), (20, T.val (D.bool true)), (21, T.opt [true] (T.val (zt9x2))), (23, T.opt [true] (T.val (D.agg (zt9x10)))), (24, T.opt [true] (T.val (D.agg (zt9x8)))), (25, T.opt [true] (T.val (D.agg (zt9x9))))] ?_ fun h_0_1_2_3_4_5_7_9_10_11 => ?_
    · skip
      refine coreS.step E_ok [8, 12] (by kernel_rfl) (by simp) ?_
      refine anyS.cons rfl ?_ ?_
      · skip
        simp
        repeat refine ⟨by decide, ?_⟩
        refine meet.of (notice_Due_x cEx 3 _ (by decide) (by decide) due_ex3) ?_
        simp
        repeat refine ⟨by decide, ?_⟩
        exact contS.mk (by simp [Weak, TW, T.plain]) h_0_1_2_3_4_5_7_8_9_10_11 (by kernel_rfl)
      refine anyS.cons rfl ?_ ?_
      · skip
        simp
        repeat refine ⟨by decide, ?_⟩
        exact contS.mk (by simp [Weak, TW, T.plain]) h_0_1_2_3_4_5_7_9_10_11_12 (by kernel_rfl)
      exact anyS.nil
    refine contS.cut 20 #[true, true, true, true, true, true, true, false, false, true, true, true, true, false, false, false, false, false, false, false, false, false, false, false, false, false, false, false, false, false, false] [(0, T.val (D.bool false)), (1, T.box (zt9x1)), (2, T.box (zt9x5)), (3, T.box (zt9x6)), (4, T.box (zt9x4)), (5, T.box (zt9x3)), (20, T.val (D.bool true)), (26, T.own true (zt9x11) [D.agg (zt9x10), D.agg (zt9x8), D.agg (zt9x9)])] ?_ fun h_0_1_2_3_4_5_9_10_11_12 => ?_
    · skip
      refine coreS.step E_ok [7] (by kernel_rfl) (by simp) ?_
      refine anyS.cons rfl ?_ ?_
      · skip
        simp
        repeat refine ⟨by decide, ?_⟩
        exact contS.mk (by simp [Weak, TW, T.plain]) h_0_1_2_3_4_5_7_9_10_11_12 (by kernel_rfl)
      exact anyS.nil
    refine contS.cut 21 #[true, true, true, true, true, true, true, true, true, true, false, false, false, false, false, false, false, false, false, false, false, false, false, false, false, false, false, false, false, false, false] [(0, T.val (D.bool false)), (1, T.box (zt9x1)), (2, T.box (zt9x5)), (3, T.box (zt9x6)), (4, T.box (zt9x4)), (5, T.box (zt9x3)), (20, T.val (D.bool true)), (22, T.opt [true] (zt9x7)), (23, T.opt [true] (T.val (D.agg (zt9x10))))] ?_ fun h_0_1_2_3_4_5_7_8_9 => ?_
    · skip
      refine coreS.step E_ok [10, 11] (by kernel_rfl) (by simp) ?_
      refine anyS.cons rfl ?_ ?_
      · skip
        simp
        repeat refine ⟨by decide, ?_⟩
        exact contS.mk (by simp [Weak, TW, T.plain]) h_0_1_2_3_4_5_7_8_9_10 (by kernel_rfl)
      refine anyS.cons rfl ?_ ?_
      · skip
        simp
        repeat refine ⟨by decide, ?_⟩
        exact contS.mk (by simp [Weak, TW, T.plain]) h_0_1_2_3_4_5_7_8_9_11 (by kernel_rfl)
      exact anyS.nil
    refine contS.cut 21 #[true, true, true, true, true, true, true, true, true, false, true, false, false, false, false, false, false, false, false, false, false, false, false, false, false, false, false, false, false, false, false] [(0, T.val (D.bool false)), (1, T.box (zt9x1)), (2, T.box (zt9x5)), (3, T.box (zt9x6)), (4, T.box (zt9x4)), (5, T.box (zt9x3)), (20, T.val (D.bool true)), (22, T.opt [true] (zt9x7)), (24, T.opt [true] (T.val (D.agg (zt9x8))))] ?_ fun h_0_1_2_3_4_5_7_8_10 => ?_
    · skip
      refine coreS.step E_ok [9, 11] (by kernel_rfl) (by simp) ?_
      refine anyS.cons rfl ?_ ?_
      · skip
        simp
        repeat refine ⟨by decide, ?_⟩
        exact contS.mk (by simp [Weak, TW, T.plain]) h_0_1_2_3_4_5_7_8_9_10 (by kernel_rfl)
      refine anyS.cons rfl ?_ ?_
      · skip
        simp
        repeat refine ⟨by decide, ?_⟩
        exact contS.mk (by simp [Weak, TW, T.plain]) h_0_1_2_3_4_5_7_8_10_11 (by kernel_rfl)
      exact anyS.nil
    refine contS.cut 21 #[true, true, true, true, true, true, true, true, true, false, false, true, false, false, false, false, false, false, false, false, false, false, false, false, false, false, false, false, false, false, false] [(0, T.val (D.bool false)), (1, T.box (zt9x1)), (2, T.box (zt9x5)), (3, T.box (zt9x6)), (4, T.box (zt9x4)), (5, T.box (zt9x3)), (20, T.val (D.bool true)), (22, T.opt [true] (zt9x7)), (25, T.opt [true] (T.val (D.agg (zt9x9))))] ?_ fun h_0_1_2_3_4_5_7_8_11 => ?_
    · skip
      refine coreS.step E_ok [9, 10] (by kernel_rfl) (by simp) ?_
      refine anyS.cons rfl ?_ ?_
      · skip
        simp
        repeat refine ⟨by decide, ?_⟩
        exact contS.mk (by simp [Weak, TW, T.plain]) h_0_1_2_3_4_5_7_8_9_11 (by kernel_rfl)
      refine anyS.cons rfl ?_ ?_
      · skip
        simp
        repeat refine ⟨by decide, ?_⟩
        exact contS.mk (by simp [Weak, TW, T.plain]) h_0_1_2_3_4_5_7_8_10_11 (by kernel_rfl)
      exact anyS.nil
    refine contS.cut 21 #[true, true, true, true, true, true, true, true, false, true, true, false, false, false, false, false, false, false, false, false, false, false, false, false, false, false, false, false, false, false, false] [(0, T.val (D.bool false)), (1, T.box (zt9x1)), (2, T.box (zt9x5)), (3, T.box (zt9x6)), (4, T.box (zt9x4)), (5, T.box (zt9x3)), (20, T.val (D.bool true)), (21, T.opt [true] (T.val (zt9x2))), (23, T.opt [true] (T.val (D.agg (zt9x10)))), (24, T.opt [true] (T.val (D.agg (zt9x8))))] ?_ fun h_0_1_2_3_4_5_7_9_10 => ?_
    · skip
      refine coreS.step E_ok [8, 11] (by kernel_rfl) (by simp) ?_
      refine anyS.cons rfl ?_ ?_
      · skip
        simp
        repeat refine ⟨by decide, ?_⟩
        refine meet.of (notice_Due_x cEx 3 _ (by decide) (by decide) due_ex3) ?_
        simp
        repeat refine ⟨by decide, ?_⟩
        exact contS.mk (by simp [Weak, TW, T.plain]) h_0_1_2_3_4_5_7_8_9_10 (by kernel_rfl)
      refine anyS.cons rfl ?_ ?_
      · skip
        simp
        repeat refine ⟨by decide, ?_⟩
        exact contS.mk (by simp [Weak, TW, T.plain]) h_0_1_2_3_4_5_7_9_10_11 (by kernel_rfl)
      exact anyS.nil
    refine contS.cut 21 #[true, true, true, true, true, true, true, true, false, true, false, true, false, false, false, false, false, false, false, false, false, false, false, false, false, false, false, false, false, false, false] [(0, T.val (D.bool false)), (1, T.box (zt9x1)), (2, T.box (zt9x5)), (3, T.box (zt9x6)), (4, T.box (zt9x4)), (5, T.box (zt9x3)), (20, T.val (D.bool true)), (21, T.opt [true] (T.val (zt9x2))), (23, T.opt [true] (T.val (D.agg (zt9x10)))), (25, T.opt [true] (T.val (D.agg (zt9x9))))] ?_ fun h_0_1_2_3_4_5_7_9_11 => ?_
    · skip
      refine coreS.step E_ok [8, 10] (by kernel_rfl) (by simp) ?_
      refine anyS.cons rfl ?_ ?_
      · skip
        simp
        repeat refine ⟨by decide, ?_⟩
        refine meet.of (notice_Due_x cEx 3 _ (by decide) (by decide) due_ex3) ?_
        simp
        repeat refine ⟨by decide, ?_⟩
        exact contS.mk (by simp [Weak, TW, T.plain]) h_0_1_2_3_4_5_7_8_9_11 (by kernel_rfl)
      refine anyS.cons rfl ?_ ?_
      · skip
        simp
        repeat refine ⟨by decide, ?_⟩
        exact contS.mk (by simp [Weak, TW, T.plain]) h_0_1_2_3_4_5_7_9_10_11 (by kernel_rfl)
      exact anyS.nil
    refine contS.cut 21 #[true, true, true, true, true, true, true, true, false, false, true, true, false, false, false, false, false, false, false, false, false, false, false, false, false, false, false, false, false, false, false] [(0, T.val (D.bool false)), (1, T.box (zt9x1)), (2, T.box (zt9x5)), (3, T.box (zt9x6)), (4, T.box (zt9x4)), (5, T.box (zt9x3)), (20, T.val (D.bool true)), (21, T.opt [true] (T.val (zt9x2))), (24, T.opt [true] (T.val (D.agg (zt9x8)))), (25, T.opt [true] (T.val (D.agg (zt9x9))))] ?_ fun h_0_1_2_3_4_5_7_10_11 => ?_
    · skip
      refine coreS.step E_ok [8, 9] (by kernel_rfl) (by simp) ?_
      refine anyS.cons rfl ?_ ?_
      · skip
        simp
        repeat refine ⟨by decide, ?_⟩
        refine meet.of (notice_Due_x cEx 3 _ (by decide) (by decide) due_ex3) ?_
        simp
        repeat refine ⟨by decide, ?_⟩
        exact contS.mk (by simp [Weak, TW, T.plain]) h_0_1_2_3_4_5_7_8_10_11 (by kernel_rfl)
      refine anyS.cons rfl ?_ ?_
      · skip
        simp
        repeat refine ⟨by decide, ?_⟩
        exact contS.mk (by simp [Weak, TW, T.plain]) h_0_1_2_3_4_5_7_9_10_11 (by kernel_rfl)
      exact anyS.nil
    refine contS.cut 21 #[true, true, true, true, true, true, true, false, false, true, true, true, false, false, false, false, false, false, false, false, false, false, false, false, false, false, false, false, false, false, false] [(0, T.val (D.bool false)), (1, T.box (zt9x1)), (2, T.box (zt9x5)), (3, T.box (zt9x6)), (4, T.box (zt9x4)), (5, T.box (zt9x3)), (20, T.val (D.bool true)), (23, T.opt [true] (T.val (D.agg (zt9x10)))), (24, T.opt [true] (T.val (D.agg (zt9x8)))), (25, T.opt [true] (T.val (D.agg (zt9x9))))] ?_ fun h_0_1_2_3_4_5_9_10_11 => ?_
    · skip
      refine coreS.step E_ok [7, 12] (by kernel_rfl) (by simp) ?_
      refine anyS.cons rfl ?_ ?_
      · skip
        simp
        repeat refine ⟨by decide, ?_⟩
        exact contS.mk (by simp [Weak, TW, T.plain]) h_0_1_2_3_4_5_7_9_10_11 (by kernel_rfl)
      refine anyS.cons rfl ?_ ?_
      · skip
        simp
        repeat refine ⟨by decide, ?_⟩
        exact contS.mk (by simp [Weak, TW, T.plain]) h_0_1_2_3_4_5_9_10_11_12 (by kernel_rfl)
      exact anyS.nil
    refine contS.cut 22 #[true, true, true, true, true, true, true, true, true, false, false, false, false, false, false, false, false, false, false, false, false, false, false, false, false, false, false, false, false, false, false] [(0, T.val (D.bool false)), (1, T.box (zt9x1)), (2, T.box (zt9x5)), (3, T.box (zt9x6)), (4, T.box (zt9x4)), (5, T.box (zt9x3)), (20, T.val (D.bool true)), (22, T.opt [true] (zt9x7))] ?_ fun h_0_1_2_3_4_5_7_8 => ?_
    · skip
      refine coreS.step E_ok [9, 10, 11] (by kernel_rfl) (by simp) ?_
      refine anyS.cons rfl ?_ ?_
      · skip
        simp
        repeat refine ⟨by decide, ?_⟩
        exact contS.mk (by simp [Weak, TW, T.plain]) h_0_1_2_3_4_5_7_8_9 (by kernel_rfl)
      refine anyS.cons rfl ?_ ?_
      · skip
        simp
        repeat refine ⟨by decide, ?_⟩
        exact contS.mk (by simp [Weak, TW, T.plain]) h_0_1_2_3_4_5_7_8_10 (by kernel_rfl)
      refine anyS.cons rfl ?_ ?_
      · skip
        simp
        repeat refine ⟨by decide, ?_⟩
        exact contS.mk (by simp [Weak, TW, T.plain]) h_0_1_2_3_4_5_7_8_11 (by kernel_rfl)
      exact anyS.nil
    refine contS.cut 22 #[true, true, true, true, true, true, true, true, false, true, false, false, false, false, false, false, false, false, false, false, false, false, false, false, false, false, false, false, false, false, false] [(0, T.val (D.bool false)), (1, T.box (zt9x1)), (2, T.box (zt9x5)), (3, T.box (zt9x6)), (4, T.box (zt9x4)), (5, T.box (zt9x3)), (20, T.val (D.bool true)), (21, T.opt [true] (T.val (zt9x2))), (23, T.opt [true] (T.val (D.agg (zt9x10))))] ?_ fun h_0_1_2_3_4_5_7_9 => ?_
    · skip
      refine coreS.step E_ok [8, 10, 11] (by kernel_rfl) (by simp) ?_
      refine anyS.cons rfl ?_ ?_
      · skip
        simp
        repeat refine ⟨by decide, ?_⟩
        refine meet.of (notice_Due_x cEx 3 _ (by decide) (by decide) due_ex3) ?_
        simp
        repeat refine ⟨by decide, ?_⟩
        exact contS.mk (by simp [Weak, TW, T.plain]) h_0_1_2_3_4_5_7_8_9 (by kernel_rfl)
      refine anyS.cons rfl ?_ ?_
      · skip
        simp
        repeat refine ⟨by decide, ?_⟩
        exact contS.mk (by simp [Weak, TW, T.plain]) h_0_1_2_3_4_5_7_9_10 (by kernel_rfl)
      refine anyS.cons rfl ?_ ?_
      · skip
        simp
        repeat refine ⟨by decide, ?_⟩
        exact contS.mk (by simp [Weak, TW, T.plain]) h_0_1_2_3_4_5_7_9_11 (by kernel_rfl)
      exact anyS.nil
    refine contS.cut 22 #[true, true, true, true, true, true, true, true, false, false, true, false, false, false, false, false, false, false, false, false, false, false, false, false, false, false, false, false, false, false, false] [(0, T.val (D.bool false)), (1, T.box (zt9x1)), (2, T.box (zt9x5)), (3, T.box (zt9x6)), (4, T.box (zt9x4)), (5, T.box (zt9x3)), (20, T.val (D.bool true)), (21, T.opt [true] (T.val (zt9x2))), (24, T.opt [true] (T.val (D.agg (zt9x8))))] ?_ fun h_0_1_2_3_4_5_7_10 => ?_
    · skip
      refine coreS.step E_ok [8, 9, 11] (by kernel_rfl) (by simp) ?_
      refine anyS.cons rfl ?_ ?_
      · skip
        simp
        repeat refine ⟨by decide, ?_⟩
        refine meet.of (notice_Due_x cEx 3 _ (by decide) (by decide) due_ex3) ?_
        simp
        repeat refine ⟨by decide, ?_⟩
        exact contS.mk (by simp [Weak, TW, T.plain]) h_0_1_2_3_4_5_7_8_10 (by kernel_rfl)
      refine anyS.cons rfl ?_ ?_
      · skip
        simp
        repeat refine ⟨by decide, ?_⟩
        exact contS.mk (by simp [Weak, TW, T.plain]) h_0_1_2_3_4_5_7_9_10 (by kernel_rfl)
      refine anyS.cons rfl ?_ ?_
      · skip
        simp
        repeat refine ⟨by decide, ?_⟩
        exact contS.mk (by simp [Weak, TW, T.plain]) h_0_1_2_3_4_5_7_10_11 (by kernel_rfl)
      exact anyS.nil
    refine contS.cut 22 #[true, true, true, true, true, true, true, true, false, false, false, true, false, false, false, false, false, false, false, false, false, false, false, false, false, false, false, false, false, false, false] [(0, T.val (D.bool false)), (1, T.box (zt9x1)), (2, T.box (zt9x5)), (3, T.box (zt9x6)), (4, T.box (zt9x4)), (5, T.box (zt9x3)), (20, T.val (D.bool true)), (21, T.opt [true] (T.val (zt9x2))), (25, T.opt [true] (T.val (D.agg (zt9x9))))] ?_ fun h_0_1_2_3_4_5_7_11 => ?_
    · skip
      refine coreS.step E_ok [8, 9, 10] (by kernel_rfl) (by simp) ?_
      refine anyS.cons rfl ?_ ?_
      · skip
        simp
        repeat refine ⟨by decide, ?_⟩
        refine meet.of (notice_Due_x cEx 3 _ (by decide) (by decide) due_ex3) ?_
        simp
        repeat refine ⟨by decide, ?_⟩
        exact contS.mk (by simp [Weak, TW, T.plain]) h_0_1_2_3_4_5_7_8_11 (by kernel_rfl)
      refine anyS.cons rfl ?_ ?_
      · skip
        simp
        repeat refine ⟨by decide, ?_⟩
        exact contS.mk (by simp [Weak, TW, T.plain]) h_0_1_2_3_4_5_7_9_11 (by kernel_rfl)
      refine anyS.cons rfl ?_ ?_
      · skip
        simp
        repeat refine ⟨by decide, ?_⟩
        exact contS.mk (by simp [Weak, TW, T.plain]) h_0_1_2_3_4_5_7_10_11 (by kernel_rfl)
      exact anyS.nil
    refine contS.cut 22 #[true, true, true, true, true, true, true, false, false, true, true, false, false, false, false, false, false, false, false, false, false, false, false, false, false, false, false, false, false, false, false] [(0, T.val (D.bool false)), (1, T.box (zt9x1)), (2, T.box (zt9x5)), (3, T.box (zt9x6)), (4, T.box (zt9x4)), (5, T.box (zt9x3)), (20, T.val (D.bool true)), (23, T.opt [true] (T.val (D.agg (zt9x10)))), (24, T.opt [true] (T.val (D.agg (zt9x8))))] ?_ fun h_0_1_2_3_4_5_9_10 => ?_
    · skip
      refine coreS.step E_ok [7, 11] (by kernel_rfl) (by simp) ?_
      refine anyS.cons rfl ?_ ?_
      · skip
        simp
        repeat refine ⟨by decide, ?_⟩
        exact contS.mk (by simp [Weak, TW, T.plain]) h_0_1_2_3_4_5_7_9_10 (by kernel_rfl)
      refine anyS.cons rfl ?_ ?_
      · skip
        simp
        repeat refine ⟨by decide, ?_⟩
        exact contS.mk (by simp [Weak, TW, T.plain]) h_0_1_2_3_4_5_9_10_11 (by kernel_rfl)
      exact anyS.nil
    refine contS.cut 22 #[true, true, true, true, true, true, true, false, false, true, false, true, false, false, false, false, false, false, false, false, false, false, false, false, false, false, false, false, false, false, false] [(0, T.val (D.bool false)), (1, T.box (zt9x1)), (2, T.box (zt9x5)), (3, T.box (zt9x6)), (4, T.box (zt9x4)), (5, T.box (zt9x3)), (20, T.val (D.bool true)), (23, T.opt [true] (T.val (D.agg (zt9x10)))), (25, T.opt [true] (T.val (D.agg (zt9x9))))] ?_ fun h_0_1_2_3_4_5_9_11 => ?_
    · skip
      refine coreS.step E_ok [7, 10] (by kernel_rfl) (by simp) ?_
      refine anyS.cons rfl ?_ ?_
      · skip
        simp
        repeat refine ⟨by decide, ?_⟩
        exact contS.mk (by simp [Weak, TW, T.plain]) h_0_1_2_3_4_5_7_9_11 (by kernel_rfl)
      refine anyS.cons rfl ?_ ?_
      · skip
        simp
        repeat refine ⟨by decide, ?_⟩
        exact contS.mk (by simp [Weak, TW, T.plain]) h_0_1_2_3_4_5_9_10_11 (by kernel_rfl)
      exact anyS.nil
    refine contS.cut 22 #[true, true, true, true, true, true, true, false, false, false, true, true, false, false, false, false, false, false, false, false, false, false, false, false, false, false, false, false, false, false, false] [(0, T.val (D.bool false)), (1, T.box (zt9x1)), (2, T.box (zt9x5)), (3, T.box (zt9x6)), (4, T.box (zt9x4)), (5, T.box (zt9x3)), (20, T.val (D.bool true)), (24, T.opt [true] (T.val (D.agg (zt9x8)))), (25, T.opt [true] (T.val (D.agg (zt9x9))))] ?_ fun h_0_1_2_3_4_5_10_11 => ?_
    · skip
      refine coreS.step E_ok [7, 9] (by kernel_rfl) (by simp) ?_
      refine anyS.cons rfl ?_ ?_
      · skip
        simp
        repeat refine ⟨by decide, ?_⟩
        exact contS.mk (by simp [Weak, TW, T.plain]) h_0_1_2_3_4_5_7_10_11 (by kernel_rfl)
      refine anyS.cons rfl ?_ ?_
      · skip
        simp
        repeat refine ⟨by decide, ?_⟩
        exact contS.mk (by simp [Weak, TW, T.plain]) h_0_1_2_3_4_5_9_10_11 (by kernel_rfl)
      exact anyS.nil
    refine contS.cut 23 #[true, true, true, true, true, true, true, true, false, false, false, false, false, false, false, false, false, false, false, false, false, false, false, false, false, false, false, false, false, false, false] [(0, T.val (D.bool false)), (1, T.box (zt9x1)), (2, T.box (zt9x5)), (3, T.box (zt9x6)), (4, T.box (zt9x4)), (5, T.box (zt9x3)), (20, T.val (D.bool true)), (21, T.opt [true] (T.val (zt9x2)))] ?_ fun h_0_1_2_3_4_5_7 => ?_
    · skip
      refine coreS.step E_ok [8, 9, 10, 11] (by kernel_rfl) (by simp) ?_
      refine anyS.cons rfl ?_ ?_
      · skip
        simp
        repeat refine ⟨by decide, ?_⟩
        refine meet.of (notice_Due_x cEx 3 _ (by decide) (by decide) due_ex3) ?_
        simp
        repeat refine ⟨by decide, ?_⟩
        exact contS.mk (by simp [Weak, TW, T.plain]) h_0_1_2_3_4_5_7_8 (by kernel_rfl)
      refine anyS.cons rfl ?_ ?_
      · skip
        simp
        repeat refine ⟨by decide, ?_⟩
        exact contS.mk (by simp [Weak, TW, T.plain]) h_0_1_2_3_4_5_7_9 (by kernel_rfl)
      refine anyS.cons rfl ?_ ?_
      · skip
        simp
        repeat refine ⟨by decide, ?_⟩
        exact contS.mk (by simp [Weak, TW, T.plain]) h_0_1_2_3_4_5_7_10 (by kernel_rfl)
      refine anyS.cons rfl ?_ ?_
      · skip
        simp
        repeat refine ⟨by decide, ?_⟩
        exact contS.mk (by simp [Weak, TW, T.plain]) h_0_1_2_3_4_5_7_11 (by kernel_rfl)
      exact anyS.nil
    refine contS.cut 23 #[true, true, true, true, true, true, true, false, false, true, false, false, false, false, false, false, false, false, false, false, false, false, false, false, false, false, false, false, false, false, false] [(0, T.val (D.bool false)), (1, T.box (zt9x1)), (2, T.box (zt9x5)), (3, T.box (zt9x6)), (4, T.box (zt9x4)), (5, T.box (zt9x3)), (20, T.val (D.bool true)), (23, T.opt [true] (T.val (D.agg (zt9x10))))] ?_ fun h_0_1_2_3_4_5_9 => ?_
    · skip
      refine coreS.step E_ok [7, 10, 11] (by kernel_rfl) (by simp) ?_
      refine anyS.cons rfl ?_ ?_
      · skip
        simp
        repeat refine ⟨by decide, ?_⟩
        exact contS.mk (by simp [Weak, TW, T.plain]) h_0_1_2_3_4_5_7_9 (by kernel_rfl)
      refine anyS.cons rfl ?_ ?_
      · skip
        simp
        repeat refine ⟨by decide, ?_⟩
        exact contS.mk (by simp [Weak, TW, T.plain]) h_0_1_2_3_4_5_9_10 (by kernel_rfl)
      refine anyS.cons rfl ?_ ?_
      · skip
        simp
        repeat refine ⟨by decide, ?_⟩
        exact contS.mk (by simp [Weak, TW, T.plain]) h_0_1_2_3_4_5_9_11 (by kernel_rfl)
      exact anyS.nil
    refine contS.cut 23 #[true, true, true, true, true, true, true, false, false, false, true, false, false, false, false, false, false, false, false, false, false, false, false, false, false, false, false, false, false, false, false] [(0, T.val (D.bool false)), (1, T.box (zt9x1)), (2, T.box (zt9x5)), (3, T.box (zt9x6)), (4, T.box (zt9x4)), (5, T.box (zt9x3)), (20, T.val (D.bool true)), (24, T.opt [true] (T.val (D.agg (zt9x8))))] ?_ fun h_0_1_2_3_4_5_10 => ?_
    · skip
      refine coreS.step E_ok [7, 9, 11] (by kernel_rfl) (by simp) ?_
      refine anyS.cons rfl ?_ ?_
      · skip
        simp
        repeat refine ⟨by decide, ?_⟩
        exact contS.mk (by simp [Weak, TW, T.plain]) h_0_1_2_3_4_5_7_10 (by kernel_rfl)
      refine anyS.cons rfl ?_ ?_
      · skip
        simp
        repeat refine ⟨by decide, ?_⟩
        exact contS.mk (by simp [Weak, TW, T.plain]) h_0_1_2_3_4_5_9_10 (by kernel_rfl)
      refine anyS.cons rfl ?_ ?_
      · skip
        simp
        repeat refine ⟨by decide, ?_⟩
        exact contS.mk (by simp [Weak, TW, T.plain]) h_0_1_2_3_4_5_10_11 (by kernel_rfl)
      exact anyS.nil
    refine contS.cut 23 #[true, true, true, true, true, true, true, false, false, false, false, true, false, false, false, false, false, false, false, false, false, false, false, false, false, false, false, false, false, false, false] [(0, T.val (D.bool false)), (1, T.box (zt9x1)), (2, T.box (zt9x5)), (3, T.box (zt9x6)), (4, T.box (zt9x4)), (5, T.box (zt9x3)), (20, T.val (D.bool true)), (25, T.opt [true] (T.val (D.agg (zt9x9))))] ?_ fun h_0_1_2_3_4_5_11 => ?_
    · skip
      refine coreS.step E_ok [7, 9, 10] (by kernel_rfl) (by simp) ?_
      refine anyS.cons rfl ?_ ?_
      · skip
        simp
        repeat refine ⟨by decide, ?_⟩
        exact contS.mk (by simp [Weak, TW, T.plain]) h_0_1_2_3_4_5_7_11 (by kernel_rfl)
      refine anyS.cons rfl ?_ ?_
      · skip
        simp
        repeat refine ⟨by decide, ?_⟩
        exact contS.mk (by simp [Weak, TW, T.plain]) h_0_1_2_3_4_5_9_11 (by kernel_rfl)
      refine anyS.cons rfl ?_ ?_
      · skip
        simp
        repeat refine ⟨by decide, ?_⟩
        exact contS.mk (by simp [Weak, TW, T.plain]) h_0_1_2_3_4_5_10_11 (by kernel_rfl)
      exact anyS.nil
    refine contS.cut 24 #[true, true, true, true, true, true, true, false, false, false, false, false, false, false, false, false, false, false, false, false, false, false, false, false, false, false, false, false, false, false, false] [(0, T.val (D.bool false)), (1, T.box (zt9x1)), (2, T.box (zt9x5)), (3, T.box (zt9x6)), (4, T.box (zt9x4)), (5, T.box (zt9x3)), (20, T.val (D.bool true))] ?_ fun h_0_1_2_3_4_5 => ?_
    · skip
      refine coreS.step E_ok [7, 9, 10, 11] (by kernel_rfl) (by simp) ?_
      refine anyS.cons rfl ?_ ?_
      · skip
        simp
        repeat refine ⟨by decide, ?_⟩
        exact contS.mk (by simp [Weak, TW, T.plain]) h_0_1_2_3_4_5_7 (by kernel_rfl)
      refine anyS.cons rfl ?_ ?_
      · skip
        simp
        repeat refine ⟨by decide, ?_⟩
        exact contS.mk (by simp [Weak, TW, T.plain]) h_0_1_2_3_4_5_9 (by kernel_rfl)
      refine anyS.cons rfl ?_ ?_
      · skip
        simp
        repeat refine ⟨by decide, ?_⟩
        exact contS.mk (by simp [Weak, TW, T.plain]) h_0_1_2_3_4_5_10 (by kernel_rfl)
      refine anyS.cons rfl ?_ ?_
      · skip
        simp
        repeat refine ⟨by decide, ?_⟩
        exact contS.mk (by simp [Weak, TW, T.plain]) h_0_1_2_3_4_5_11 (by kernel_rfl)
      exact anyS.nil
    refine contS.cut 26 #[true, true, true, true, true, false, false, false, false, false, false, false, false, false, false, false, false, false, false, false, false, false, false, false, false, false, false, false, false, false, false] [(0, T.val (D.bool false)), (1, T.box (zt9x1)), (2, T.box (zt9x5)), (3, T.box (zt9x6)), (4, T.box (zt9x4)), (5, T.box (zt9x3)), (15, T.val ((zt9x11).slice [D.agg (zt9x8), D.agg (zt9x9)])), (18, T.own true (zt9x11) [D.agg (zt9x8), D.agg (zt9x9)])] ?_ fun h_0_1_2_3_4 => ?_
    · skip
      refine coreS.step E_ok [5] (by kernel_rfl) (by simp) ?_
      refine anyS.cons rfl ?_ ?_
      · skip
        simp
        repeat refine ⟨by decide, ?_⟩
        refine meet.of (ref35_Same [⟨2, 5, 2, 99⟩, ⟨4, 5, 2, 99⟩] [⟨2, 5, 2, 99⟩, ⟨4, 5, 2, 99⟩] (by decide)) ?_
        simp
        repeat refine ⟨by decide, ?_⟩
        refine contS.now (f' := 25) (l' := #[true, true, true, true, true, true, false, false, false, false, false, false, false, false, false, false, false, false, false, false, false, false, false, false, false, false, false, false, false, false, false]) ?_ rfl (by kernel_rfl)
        refine coreS.dry E_ok (by kernel_rfl) 6 rfl rfl (by kernel_rfl) (by kernel_rfl) ?_
        simp
        repeat refine ⟨by decide, ?_⟩
        exact contS.mk (by simp [Weak, TW, T.plain]) h_0_1_2_3_4_5 (by kernel_rfl)
      exact anyS.nil
    refine contS.cut 27 #[true, true, true, true, false, false, false, false, false, false, false, false, false, false, false, false, false, false, false, false, false, false, false, false, false, false, false, false, false, false, false] [(0, T.val (D.bool false)), (1, T.box (zt9x1)), (2, T.box (zt9x5)), (3, T.box (zt9x6)), (4, T.box (zt9x4)), (5, T.box (zt9x3)), (15, T.val ((zt9x11).slice [D.agg (zt9x8), D.agg (zt9x9)])), (16, T.val (D.agg (zt9x8))), (17, T.val (D.agg (zt9x9)))] ?_ fun h_0_1_2_3 => ?_
    · skip
      refine coreS.step E_ok [4] (by kernel_rfl) (by simp) ?_
      refine anyS.cons rfl ?_ ?_
      · skip
        simp
        repeat refine ⟨by decide, ?_⟩
        exact contS.mk (by simp [Weak, TW, T.plain]) h_0_1_2_3_4 (by kernel_rfl)
      exact anyS.nil
    refine contS.cut 27 #[true, false, true, true, true, false, false, false, false, false, false, false, false, false, false, false, false, false, false, false, false, false, false, false, false, false, false, false, false, false, false] [(0, T.val (D.bool false)), (1, T.box (zt9x1)), (2, T.box (zt9x5)), (3, T.box (zt9x6)), (4, T.box (zt9x4)), (5, T.box (zt9x3)), (14, T.val (zt9x2)), (18, T.own true (zt9x11) [D.agg (zt9x8), D.agg (zt9x9)])] ?_ fun h_0_2_3_4 => ?_
    · skip
      refine coreS.step E_ok [1] (by kernel_rfl) (by simp) ?_
      refine anyS.cons rfl ?_ ?_
      · skip
        simp
        repeat refine ⟨by decide, ?_⟩
        refine meet.of (notice_Due_x cEx 2 _ (by decide) (by decide) due_ex2) ?_
        simp
        repeat refine ⟨by decide, ?_⟩
        exact contS.mk (by simp [Weak, TW, T.plain]) h_0_1_2_3_4 (by kernel_rfl)
      exact anyS.nil
    refine contS.cut 28 #[true, true, true, false, false, false, false, false, false, false, false, false, false, false, false, false, false, false, false, false, false, false, false, false, false, false, false, false, false, false, false] [(0, T.val (D.bool false)), (1, T.box (zt9x1)), (2, T.box (zt9x5)), (3, T.box (zt9x6)), (4, T.box (zt9x4)), (5, T.box (zt9x3)), (15, T.val ((zt9x11).slice [D.agg (zt9x8), D.agg (zt9x9)])), (16, T.val (D.agg (zt9x8)))] ?_ fun h_0_1_2 => ?_
    · skip
      refine coreS.step E_ok [3] (by kernel_rfl) (by simp) ?_
      refine anyS.cons rfl ?_ ?_
      · skip
        simp
        repeat refine ⟨by decide, ?_⟩
        exact contS.mk (by simp [Weak, TW, T.plain]) h_0_1_2_3 (by kernel_rfl)
      exact anyS.nil
    refine contS.cut 28 #[true, true, false, true, false, false, false, false, false, false, false, false, false, false, false, false, false, false, false, false, false, false, false, false, false, false, false, false, false, false, false] [(0, T.val (D.bool false)), (1, T.box (zt9x1)), (2, T.box (zt9x5)), (3, T.box (zt9x6)), (4, T.box (zt9x4)), (5, T.box (zt9x3)), (15, T.val ((zt9x11).slice [D.agg (zt9x8), D.agg (zt9x9)])), (17, T.val (D.agg (zt9x9)))] ?_ fun h_0_1_3 => ?_
    · skip
      refine coreS.step E_ok [2] (by kernel_rfl) (by simp) ?_
      refine anyS.cons rfl ?_ ?_
      · skip
        simp
        repeat refine ⟨by decide, ?_⟩
        exact contS.mk (by simp [Weak, TW, T.plain]) h_0_1_2_3 (by kernel_rfl)
      exact anyS.nil
    refine contS.cut 28 #[true, false, true, true, false, false, false, false, false, false, false, false, false, false, false, false, false, false, false, false, false, false, false, false, false, false, false, false, false, false, false] [(0, T.val (D.bool false)), (1, T.box (zt9x1)), (2, T.box (zt9x5)), (3, T.box (zt9x6)), (4, T.box (zt9x4)), (5, T.box (zt9x3)), (14, T.val (zt9x2)), (16, T.val (D.agg (zt9x8))), (17, T.val (D.agg (zt9x9)))] ?_ fun h_0_2_3 => ?_
    · skip
      refine coreS.step E_ok [1, 4] (by kernel_rfl) (by simp) ?_
      refine anyS.cons rfl ?_ ?_
      · skip
        simp
        repeat refine ⟨by decide, ?_⟩
        refine meet.of (notice_Due_x cEx 2 _ (by decide) (by decide) due_ex2) ?_
        simp
        repeat refine ⟨by decide, ?_⟩
        exact contS.mk (by simp [Weak, TW, T.plain]) h_0_1_2_3 (by kernel_rfl)
      refine anyS.cons rfl ?_ ?_
      · skip
        simp
        repeat refine ⟨by decide, ?_⟩
        exact contS.mk (by simp [Weak, TW, T.plain]) h_0_2_3_4 (by kernel_rfl)
      exact anyS.nil
    refine contS.cut 28 #[false, false, true, true, true, false, false, false, false, false, false, false, false, false, false, false, false, false, false, false, false, false, false, false, false, false, false, false, false, false, false] [(0, T.val (D.bool false)), (1, T.box (zt9x1)), (2, T.box (zt9x5)), (3, T.box (zt9x6)), (4, T.box (zt9x4)), (5, T.box (zt9x3)), (18, T.own true (zt9x11) [D.agg (zt9x8), D.agg (zt9x9)])] ?_ fun h_2_3_4 => ?_
    · skip
      refine coreS.step E_ok [0] (by kernel_rfl) (by simp) ?_
      refine anyS.cons rfl ?_ ?_
      · skip
        simp
        repeat refine ⟨by decide, ?_⟩
        exact contS.mk (by simp [Weak, TW, T.plain]) h_0_2_3_4 (by kernel_rfl)
      exact anyS.nil
    refine contS.cut 29 #[true, true, false, false, false, false, false, false, false, false, false, false, false, false, false, false, false, false, false, false, false, false, false, false, false, false, false, false, false, false, false] [(0, T.val (D.bool false)), (1, T.box (zt9x1)), (2, T.box (zt9x5)), (3, T.box (zt9x6)), (4, T.box (zt9x4)), (5, T.box (zt9x3)), (15, T.val ((zt9x11).slice [D.agg (zt9x8), D.agg (zt9x9)]))] ?_ fun h_0_1 => ?_
    · skip
      refine coreS.step E_ok [2, 3] (by kernel_rfl) (by simp) ?_
      refine anyS.cons rfl ?_ ?_
      · skip
        simp
        repeat refine ⟨by decide, ?_⟩
        exact contS.mk (by simp [Weak, TW, T.plain]) h_0_1_2 (by kernel_rfl)
      refine anyS.cons rfl ?_ ?_
      · skip
        simp
        repeat refine ⟨by decide, ?_⟩
        exact contS.mk (by simp [Weak, TW, T.plain]) h_0_1_3 (by kernel_rfl)
      exact anyS.nil
    refine contS.cut 29 #[true, false, true, false, false, false, false, false, false, false, false, false, false, false, false, false, false, false, false, false, false, false, false, false, false, false, false, false, false, false, false] [(0, T.val (D.bool false)), (1, T.box (zt9x1)), (2, T.box (zt9x5)), (3, T.box (zt9x6)), (4, T.box (zt9x4)), (5, T.box (zt9x3)), (14, T.val (zt9x2)), (16, T.val (D.agg (zt9x8)))] ?_ fun h_0_2 => ?_
    · skip
      refine coreS.step E_ok [1, 3] (by kernel_rfl) (by simp) ?_
      refine anyS.cons rfl ?_ ?_
      · skip
        simp
        repeat refine ⟨by decide, ?_⟩
        refine meet.of (notice_Due_x cEx 2 _ (by decide) (by decide) due_ex2) ?_
        simp
        repeat refine ⟨by decide, ?_⟩
        exact contS.mk (by simp [Weak, TW, T.plain]) h_0_1_2 (by kernel_rfl)
      refine anyS.cons rfl ?_ ?_
      · skip
        simp
        repeat refine ⟨by decide, ?_⟩
        exact contS.mk (by simp [Weak, TW, T.plain]) h_0_2_3 (by kernel_rfl)
      exact anyS.nil
    refine contS.cut 29 #[true, false, false, true, false, false, false, false, false, false, false, false, false, false, false, false, false, false, false, false, false, false, false, false, false, false, false, false, false, false, false] [(0, T.val (D.bool false)), (1, T.box (zt9x1)), (2, T.box (zt9x5)), (3, T.box (zt9x6)), (4, T.box (zt9x4)), (5, T.box (zt9x3)), (14, T.val (zt9x2)), (17, T.val (D.agg (zt9x9)))] ?_ fun h_0_3 => ?_
    · skip
      refine coreS.step E_ok [1, 2] (by kernel_rfl) (by simp) ?_
      refine anyS.cons rfl ?_ ?_
      · skip
        simp
        repeat refine ⟨by decide, ?_⟩
        refine meet.of (notice_Due_x cEx 2 _ (by decide) (by decide) due_ex2) ?_
        simp
        repeat refine ⟨by decide, ?_⟩
        exact contS.mk (by simp [Weak, TW, T.plain]) h_0_1_3 (by kernel_rfl)
      refine anyS.cons rfl ?_ ?_
      · skip
        simp
        repeat refine ⟨by decide, ?_⟩
        exact contS.mk (by simp [Weak, TW, T.plain]) h_0_2_3 (by kernel_rfl)
      exact anyS.nil
    refine contS.cut 29 #[false, false, true, true, false, false, false, false, false, false, false, false, false, false, false, false, false, false, false, false, false, false, false, false, false, false, false, false, false, false, false] [(0, T.val (D.bool false)), (1, T.box (zt9x1)), (2, T.box (zt9x5)), (3, T.box (zt9x6)), (4, T.box (zt9x4)), (5, T.box (zt9x3)), (16, T.val (D.agg (zt9x8))), (17, T.val (D.agg (zt9x9)))] ?_ fun h_2_3 => ?_
    · skip
      refine coreS.step E_ok [0, 4] (by kernel_rfl) (by simp) ?_
      refine anyS.cons rfl ?_ ?_
      · skip
        simp
        repeat refine ⟨by decide, ?_⟩
        exact contS.mk (by simp [Weak, TW, T.plain]) h_0_2_3 (by kernel_rfl)
      refine anyS.cons rfl ?_ ?_
      · skip
        simp
        repeat refine ⟨by decide, ?_⟩
        exact contS.mk (by simp [Weak, TW, T.plain]) h_2_3_4 (by kernel_rfl)
      exact anyS.nil
    refine contS.cut 30 #[true, false, false, false, false, false, false, false, false, false, false, false, false, false, false, false, false, false, false, false, false, false, false, false, false, false, false, false, false, false, false] [(0, T.val (D.bool false)), (1, T.box (zt9x1)), (2, T.box (zt9x5)), (3, T.box (zt9x6)), (4, T.box (zt9x4)), (5, T.box (zt9x3)), (14, T.val (zt9x2))] ?_ fun h_0 => ?_
    · skip
      refine coreS.step E_ok [1, 2, 3] (by kernel_rfl) (by simp) ?_
      refine anyS.cons rfl ?_ ?_
      · skip
        simp
        repeat refine ⟨by decide, ?_⟩
        refine meet.of (notice_Due_x cEx 2 _ (by decide) (by decide) due_ex2) ?_
        simp
        repeat refine ⟨by decide, ?_⟩
        exact contS.mk (by simp [Weak, TW, T.plain]) h_0_1 (by kernel_rfl)
      refine anyS.cons rfl ?_ ?_
      · skip
        simp
        repeat refine ⟨by decide, ?_⟩
        exact contS.mk (by simp [Weak, TW, T.plain]) h_0_2 (by kernel_rfl)
      refine anyS.cons rfl ?_ ?_
      · skip
        simp
        repeat refine ⟨by decide, ?_⟩
        exact contS.mk (by simp [Weak, TW, T.plain]) h_0_3 (by kernel_rfl)
      exact anyS.nil
    refine contS.cut 30 #[false, false, true, false, false, false, false, false, false, false, false, false, false, false, false, false, false, false, false, false, false, false, false, false, false, false, false, false, false, false, false] [(0, T.val (D.bool false)), (1, T.box (zt9x1)), (2, T.box (zt9x5)), (3, T.box (zt9x6)), (4, T.box (zt9x4)), (5, T.box (zt9x3)), (16, T.val (D.agg (zt9x8)))] ?_ fun h_2 => ?_
    · skip
      refine coreS.step E_ok [0, 3] (by kernel_rfl) (by simp) ?_
      refine anyS.cons rfl ?_ ?_
      · skip
        simp
        repeat refine ⟨by decide, ?_⟩
        exact contS.mk (by simp [Weak, TW, T.plain]) h_0_2 (by kernel_rfl)
      refine anyS.cons rfl ?_ ?_
      · skip
        simp
        repeat refine ⟨by decide, ?_⟩
        exact contS.mk (by simp [Weak, TW, T.plain]) h_2_3 (by kernel_rfl)
      exact anyS.nil
    refine contS.cut 30 #[false, false, false, true, false, false, false, false, false, false, false, false, false, false, false, false, false, false, false, false, false, false, false, false, false, false, false, false, false, false, false] [(0, T.val (D.bool false)), (1, T.box (zt9x1)), (2, T.box (zt9x5)), (3, T.box (zt9x6)), (4, T.box (zt9x4)), (5, T.box (zt9x3)), (17, T.val (D.agg (zt9x9)))] ?_ fun h_3 => ?_
    · skip
      refine coreS.step E_ok [0, 2] (by kernel_rfl) (by simp) ?_
      refine anyS.cons rfl ?_ ?_
      · skip
        simp
        repeat refine ⟨by decide, ?_⟩
        exact contS.mk (by simp [Weak, TW, T.plain]) h_0_3 (by kernel_rfl)
      refine anyS.cons rfl ?_ ?_
      · skip
        simp
        repeat refine ⟨by decide, ?_⟩
        exact contS.mk (by simp [Weak, TW, T.plain]) h_2_3 (by kernel_rfl)
      exact anyS.nil
    refine contS.cut 31 #[false, false, false, false, false, false, false, false, false, false, false, false, false, false, false, false, false, false, false, false, false, false, false, false, false, false, false, false, false, false, false] [(0, T.val (D.bool false)), (1, T.box (zt9x1)), (2, T.box (zt9x5)), (3, T.box (zt9x6)), (4, T.box (zt9x4)), (5, T.box (zt9x3))] ?_ fun h_ => ?_
    · skip
      refine coreS.step E_ok [0, 2, 3] (by kernel_rfl) (by simp) ?_
      refine anyS.cons rfl ?_ ?_
      · skip
        simp
        repeat refine ⟨by decide, ?_⟩
        exact contS.mk (by simp [Weak, TW, T.plain]) h_0 (by kernel_rfl)
      refine anyS.cons rfl ?_ ?_
      · skip
        simp
        repeat refine ⟨by decide, ?_⟩
        exact contS.mk (by simp [Weak, TW, T.plain]) h_2 (by kernel_rfl)
      refine anyS.cons rfl ?_ ?_
      · skip
        simp
        repeat refine ⟨by decide, ?_⟩
        exact contS.mk (by simp [Weak, TW, T.plain]) h_3 (by kernel_rfl)
      exact anyS.nil
    exact contS.mk (by simp [Weak, TW, T.plain]) h_ (by kernel_rfl)
  refine hK _ ?_
  clear hK K
  refine AWp.ret ?_
  repeat first | refine thenN ?_ | refine thenX ?_ | refine thenR ?_ | refine blockN ?_ | refine blockR ?_ | refine blockX ?_ | refine blockM rfl ?_
  simp [RetOk, RV]
end Go.Proofs.YtjpjndfdncalfaaDoor

/- Notices: the calendars of a state, as cells. -/
namespace Pl
open Go Ab
def zCalN : Cal := ⟨0, []⟩
def calsC (q : Cals) : List D := [.int .i64 q.c0.week, encInts q.c0.closed, .int .i64 q.c1.week, encInts q.c1.closed, .int .i64 q.c2.week, encInts q.c2.closed, .int .i64 q.c3.week, encInts q.c3.closed]
end Pl

set_option maxRecDepth 100000
set_option linter.unusedSimpArgs false
set_option linter.unusedVariables false
namespace Pl
end Pl
namespace Go.Proofs.YtjpjndfdncalfaaDoor
open Go Ab Pl
theorem open_int : Opens Tryd.prog 3 (fun n => [D.int .i64 n]) (fun n => IntKind.min .i64 ≤ n ∧ n ≤ IntKind.max .i64) := Opens.int Tryd.underlying3
theorem openV_int : OpensV Tryd.prog 3 (fun n => D.int .i64 n) (fun n => IntKind.min .i64 ≤ n ∧ n ≤ IntKind.max .i64) := Opens.one open_int (cells_int' Tryd.underlying3)
theorem open_api_Errno : Opens Tryd.prog 74 (fun n => [D.int .i64 n]) (fun n => IntKind.min .i64 ≤ n ∧ n ≤ IntKind.max .i64) := Opens.int Tryd.underlying74
theorem openV_api_Errno : OpensV Tryd.prog 74 (fun n => D.int .i64 n) (fun n => IntKind.min .i64 ≤ n ∧ n ≤ IntKind.max .i64) := Opens.one open_api_Errno (cells_int' Tryd.underlying74)
theorem open_uint8 : Opens Tryd.prog 5 (fun n => [D.int .u8 n]) (fun n => IntKind.min .u8 ≤ n ∧ n ≤ IntKind.max .u8) := Opens.int Tryd.underlying5
theorem openV_uint8 : OpensV Tryd.prog 5 (fun n => D.int .u8 n) (fun n => IntKind.min .u8 ≤ n ∧ n ≤ IntKind.max .u8) := Opens.one open_uint8 (cells_int' Tryd.underlying5)
theorem open_bool : Opens Tryd.prog 4 (fun b => [D.bool b]) (fun _ => True) := Opens.bool Tryd.underlying4
theorem openV_bool : OpensV Tryd.prog 4 (fun b => D.bool b) (fun _ => True) := Opens.one open_bool (cells_bool' Tryd.underlying4)
theorem open_string : Opens Tryd.prog 9 (fun s => [D.str s]) (fun s => s.length ≤ Go.maxLen) := Opens.str Tryd.underlying9
theorem openV_string : OpensV Tryd.prog 9 (fun s => D.str s) (fun s => s.length ≤ Go.maxLen) := Opens.one open_string (cells_str' Tryd.underlying9)
theorem open_s_int : Opens Tryd.prog 28 (fun l : List Int => [encInts l]) (fun l => l.length ≤ Go.maxLen) :=
  (Opens.slice Tryd.underlying28 (by kernel_rfl) (by decide) open_int (D.int .i64) (fun _ => rfl) (.int .i64 0) rfl).map id (fun _ => rfl) (fun _ h => h.2)
theorem openV_s_int : OpensV Tryd.prog 28 encInts (fun l => l.length ≤ Go.maxLen) := Opens.one open_s_int (cells_slice' Tryd.underlying28)
theorem open_api_Charge : Opens Tryd.prog 138 (fun c : Charge => (encCharge c).cells) (fun _ => True) :=
  (Opens.struct Tryd.underlying138 (OpensF.cons (n := 1) rfl (by kernel_rfl) open_int (fun _ => rfl) (OpensF.cons (n := 1) rfl (by kernel_rfl) open_int (fun _ => rfl) (OpensF.cons (n := 1) rfl (by kernel_rfl) open_int (fun _ => rfl) (OpensF.cons (n := 1) rfl (by kernel_rfl) open_int (fun _ => rfl) (OpensF.cons (n := 1) rfl (by kernel_rfl) open_int (fun _ => rfl) (OpensF.cons (n := 1) rfl (by kernel_rfl) open_int (fun _ => rfl) (OpensF.cons (n := 1) rfl (by kernel_rfl) open_int (fun _ => rfl) OpensF.nil))))))) (fun _ => by kernel_rfl)).map (fun p => (⟨p.1, p.2.1, p.2.2.1, p.2.2.2.1, p.2.2.2.2.1, p.2.2.2.2.2.1, p.2.2.2.2.2.2.1⟩ : Charge)) (fun _ => rfl) (fun _ _ => trivial)
theorem openV_api_Charge : OpensV Tryd.prog 138 encCharge (fun _ => True) := Opens.agg Tryd.underlying138 open_api_Charge
theorem open_s_api_Charge : Opens Tryd.prog 26 (fun l : List Charge => [encCharges l]) (fun l => l.length ≤ Go.maxLen) :=
  (Opens.slice Tryd.underlying26 (by kernel_rfl) (by decide) open_api_Charge encCharge (fun _ => rfl) (encCharge z0) rfl).map id (fun _ => rfl) (fun _ h => h.2)
theorem openV_s_api_Charge : OpensV Tryd.prog 26 encCharges (fun l => l.length ≤ Go.maxLen) := Opens.one open_s_api_Charge (cells_slice' Tryd.underlying26)
theorem open_api_Rule : Opens Tryd.prog 140 (fun c : Rule => (encRule c).cells) (fun _ => True) :=
  (Opens.struct Tryd.underlying140 (OpensF.cons (n := 1) rfl (by kernel_rfl) open_int (fun _ => rfl) (OpensF.cons (n := 1) rfl (by kernel_rfl) open_int (fun _ => rfl) (OpensF.cons (n := 1) rfl (by kernel_rfl) open_int (fun _ => rfl) (OpensF.cons (n := 1) rfl (by kernel_rfl) open_int (fun _ => rfl) (OpensF.cons (n := 1) rfl (by kernel_rfl) open_int (fun _ => rfl) (OpensF.cons (n := 1) rfl (by kernel_rfl) open_int (fun _ => rfl) (OpensF.cons (n := 1) rfl (by kernel_rfl) open_int (fun _ => rfl) (OpensF.cons (n := 1) rfl (by kernel_rfl) open_int (fun _ => rfl) (OpensF.cons (n := 1) rfl (by kernel_rfl) open_int (fun _ => rfl) (OpensF.cons (n := 1) rfl (by kernel_rfl) open_int (fun _ => rfl) (OpensF.cons (n := 1) rfl (by kernel_rfl) open_int (fun _ => rfl) (OpensF.cons (n := 1) rfl (by kernel_rfl) open_int (fun _ => rfl) (OpensF.cons (n := 1) rfl (by kernel_rfl) open_int (fun _ => rfl) OpensF.nil))))))))))))) (fun _ => by kernel_rfl)).map (fun p => (⟨p.1, p.2.1, p.2.2.1, p.2.2.2.1, p.2.2.2.2.1, p.2.2.2.2.2.1, p.2.2.2.2.2.2.1, p.2.2.2.2.2.2.2.1, p.2.2.2.2.2.2.2.2.1, p.2.2.2.2.2.2.2.2.2.1, p.2.2.2.2.2.2.2.2.2.2.1, p.2.2.2.2.2.2.2.2.2.2.2.1, p.2.2.2.2.2.2.2.2.2.2.2.2.1⟩ : Rule)) (fun _ => rfl) (fun _ _ => trivial)
theorem openV_api_Rule : OpensV Tryd.prog 140 encRule (fun _ => True) := Opens.agg Tryd.underlying140 open_api_Rule
theorem open_api_Calendar : Opens Tryd.prog 30 (fun c : Cal => (encCal c).cells) (fun _ => True) :=
  (Opens.struct Tryd.underlying30 (OpensF.cons (n := 1) rfl (by kernel_rfl) open_int (fun _ => rfl) (OpensF.cons (n := 1) rfl (by kernel_rfl) open_s_int (fun _ => rfl) OpensF.nil)) (fun _ => by kernel_rfl)).map (fun p => (⟨p.1, p.2.1⟩ : Cal)) (fun _ => rfl) (fun _ _ => trivial)
theorem openV_api_Calendar : OpensV Tryd.prog 30 encCal (fun _ => True) := Opens.agg Tryd.underlying30 open_api_Calendar
theorem open_s_api_Rule : Opens Tryd.prog 27 (fun l : List Rule => [encRules l]) (fun l => l.length ≤ Go.maxLen) :=
  (Opens.slice Tryd.underlying27 (by kernel_rfl) (by decide) open_api_Rule encRule (fun _ => rfl) (encRule zr) rfl).map id (fun _ => rfl) (fun _ h => h.2)
theorem openV_s_api_Rule : OpensV Tryd.prog 27 encRules (fun l => l.length ≤ Go.maxLen) := Opens.one open_s_api_Rule (cells_slice' Tryd.underlying27)
theorem open_api_Loan : Opens Tryd.prog 47 (fun c : Loan => (encLoan c).cells) (fun _ => True) :=
  (Opens.struct Tryd.underlying47 (OpensF.cons (n := 1) rfl (by kernel_rfl) open_int (fun _ => rfl) (OpensF.cons (n := 1) rfl (by kernel_rfl) open_int (fun _ => rfl) (OpensF.cons (n := 1) rfl (by kernel_rfl) open_int (fun _ => rfl) (OpensF.cons (n := 1) rfl (by kernel_rfl) open_int (fun _ => rfl) (OpensF.cons (n := 1) rfl (by kernel_rfl) open_int (fun _ => rfl) (OpensF.cons (n := 1) rfl (by kernel_rfl) open_bool (fun _ => rfl) OpensF.nil)))))) (fun _ => by kernel_rfl)).map (fun p => (⟨p.1, p.2.1, p.2.2.1, p.2.2.2.1, p.2.2.2.2.1, p.2.2.2.2.2.1⟩ : Loan)) (fun _ => rfl) (fun _ _ => trivial)
theorem openV_api_Loan : OpensV Tryd.prog 47 encLoan (fun _ => True) := Opens.agg Tryd.underlying47 open_api_Loan
theorem open_api_Custody : Opens Tryd.prog 134 (fun c : Custody => (encCus c).cells) (fun _ => True) :=
  (Opens.struct Tryd.underlying134 (OpensF.cons (n := 1) rfl (by kernel_rfl) open_int (fun _ => rfl) (OpensF.cons (n := 1) rfl (by kernel_rfl) open_int (fun _ => rfl) (OpensF.cons (n := 1) rfl (by kernel_rfl) open_int (fun _ => rfl) (OpensF.cons (n := 1) rfl (by kernel_rfl) open_int (fun _ => rfl) OpensF.nil)))) (fun _ => by kernel_rfl)).map (fun p => (⟨p.1, p.2.1, p.2.2.1, p.2.2.2.1⟩ : Custody)) (fun _ => rfl) (fun _ _ => trivial)
theorem openV_api_Custody : OpensV Tryd.prog 134 encCus (fun _ => True) := Opens.agg Tryd.underlying134 open_api_Custody
theorem open_api_Move : Opens Tryd.prog 142 (fun c : Mv => (encMove c).cells) (fun _ => True) :=
  (Opens.struct Tryd.underlying142 (OpensF.cons (n := 1) rfl (by kernel_rfl) open_int (fun _ => rfl) (OpensF.cons (n := 1) rfl (by kernel_rfl) open_int (fun _ => rfl) (OpensF.cons (n := 1) rfl (by kernel_rfl) open_int (fun _ => rfl) (OpensF.cons (n := 1) rfl (by kernel_rfl) open_int (fun _ => rfl) (OpensF.cons (n := 1) rfl (by kernel_rfl) open_int (fun _ => rfl) OpensF.nil))))) (fun _ => by kernel_rfl)).map (fun p => (⟨p.1, p.2.1, p.2.2.1, p.2.2.2.1, p.2.2.2.2.1⟩ : Mv)) (fun _ => rfl) (fun _ _ => trivial)
theorem openV_api_Move : OpensV Tryd.prog 142 encMove (fun _ => True) := Opens.agg Tryd.underlying142 open_api_Move
theorem open_s_api_Move : Opens Tryd.prog 32 (fun l : List Mv => [encMoves l]) (fun l => l.length ≤ Go.maxLen) :=
  (Opens.slice Tryd.underlying32 (by kernel_rfl) (by decide) open_api_Move encMove (fun _ => rfl) (encMove zm) rfl).map id (fun _ => rfl) (fun _ h => h.2)
theorem openV_s_api_Move : OpensV Tryd.prog 32 encMoves (fun l => l.length ≤ Go.maxLen) := Opens.one open_s_api_Move (cells_slice' Tryd.underlying32)
theorem open_api_Notice : Opens Tryd.prog 42 (fun c : Note => (encNote c).cells) (fun _ => True) :=
  (Opens.struct Tryd.underlying42 (OpensF.cons (n := 1) rfl (by kernel_rfl) open_int (fun _ => rfl) (OpensF.cons (n := 1) rfl (by kernel_rfl) open_int (fun _ => rfl) (OpensF.cons (n := 1) rfl (by kernel_rfl) open_int (fun _ => rfl) (OpensF.cons (n := 1) rfl (by kernel_rfl) open_int (fun _ => rfl) OpensF.nil)))) (fun _ => by kernel_rfl)).map (fun p => (⟨p.1, p.2.1, p.2.2.1, p.2.2.2.1⟩ : Note)) (fun _ => rfl) (fun _ _ => trivial)
theorem openV_api_Notice : OpensV Tryd.prog 42 encNote (fun _ => True) := Opens.agg Tryd.underlying42 open_api_Notice
theorem open_s_api_Notice : Opens Tryd.prog 38 (fun l : List Note => [encNotes l]) (fun l => l.length ≤ Go.maxLen) :=
  (Opens.slice Tryd.underlying38 (by kernel_rfl) (by decide) open_api_Notice encNote (fun _ => rfl) (encNote zn) rfl).map id (fun _ => rfl) (fun _ h => h.2)
theorem openV_s_api_Notice : OpensV Tryd.prog 38 encNotes (fun l => l.length ≤ Go.maxLen) := Opens.one open_s_api_Notice (cells_slice' Tryd.underlying38)
theorem open_s_api_Loan : Opens Tryd.prog 24 (fun l : List Loan => [encLoans l]) (fun l => l.length ≤ Go.maxLen) :=
  (Opens.slice Tryd.underlying24 (by kernel_rfl) (by decide) open_api_Loan encLoan (fun _ => rfl) (encLoan zLoan) rfl).map id (fun _ => rfl) (fun _ h => h.2)
theorem openV_s_api_Loan : OpensV Tryd.prog 24 encLoans (fun l => l.length ≤ Go.maxLen) := Opens.one open_s_api_Loan (cells_slice' Tryd.underlying24)
theorem open_api_Patron : Opens Tryd.prog 64 (fun c : Patr => (encPatr c).cells) (fun _ => True) :=
  (Opens.struct Tryd.underlying64 (OpensF.cons (n := 1) rfl (by kernel_rfl) open_int (fun _ => rfl) (OpensF.cons (n := 1) rfl (by kernel_rfl) open_int (fun _ => rfl) (OpensF.cons (n := 1) rfl (by kernel_rfl) open_int (fun _ => rfl) (OpensF.cons (n := 1) rfl (by kernel_rfl) open_int (fun _ => rfl) (OpensF.cons (n := 1) rfl (by kernel_rfl) open_bool (fun _ => rfl) (OpensF.cons (n := 1) rfl (by kernel_rfl) open_string (fun _ => rfl) OpensF.nil)))))) (fun _ => by kernel_rfl)).map (fun p => (⟨p.1, p.2.1, p.2.2.1, p.2.2.2.1, p.2.2.2.2.1, p.2.2.2.2.2.1⟩ : Patr)) (fun _ => rfl) (fun _ _ => trivial)
theorem openV_api_Patron : OpensV Tryd.prog 64 encPatr (fun _ => True) := Opens.agg Tryd.underlying64 open_api_Patron
theorem open_s_api_Patron : Opens Tryd.prog 23 (fun l : List Patr => [encPatrs l]) (fun l => l.length ≤ Go.maxLen) :=
  (Opens.slice Tryd.underlying23 (by kernel_rfl) (by decide) open_api_Patron encPatr (fun _ => rfl) (encPatr zPatr) rfl).map id (fun _ => rfl) (fun _ h => h.2)
theorem openV_s_api_Patron : OpensV Tryd.prog 23 encPatrs (fun l => l.length ≤ Go.maxLen) := Opens.one open_s_api_Patron (cells_slice' Tryd.underlying23)
theorem open_api_Item : Opens Tryd.prog 136 (fun c : Itm => (encItm c).cells) (fun _ => True) :=
  (Opens.struct Tryd.underlying136 (OpensF.cons (n := 1) rfl (by kernel_rfl) open_int (fun _ => rfl) (OpensF.cons (n := 1) rfl (by kernel_rfl) open_int (fun _ => rfl) (OpensF.cons (n := 1) rfl (by kernel_rfl) open_int (fun _ => rfl) (OpensF.cons (n := 1) rfl (by kernel_rfl) open_int (fun _ => rfl) (OpensF.cons (n := 1) rfl (by kernel_rfl) open_int (fun _ => rfl) (OpensF.cons (n := 1) rfl (by kernel_rfl) open_string (fun _ => rfl) (OpensF.cons (n := 4) rfl (by kernel_rfl) open_api_Custody (fun _ => rfl) OpensF.nil))))))) (fun _ => by kernel_rfl)).map (fun p => (⟨p.1, p.2.1, p.2.2.1, p.2.2.2.1, p.2.2.2.2.1, p.2.2.2.2.2.1, p.2.2.2.2.2.2.1⟩ : Itm)) (fun _ => rfl) (fun _ _ => trivial)
theorem openV_api_Item : OpensV Tryd.prog 136 encItm (fun _ => True) := Opens.agg Tryd.underlying136 open_api_Item
theorem open_s_api_Item : Opens Tryd.prog 22 (fun l : List Itm => [encItms l]) (fun l => l.length ≤ Go.maxLen) :=
  (Opens.slice Tryd.underlying22 (by kernel_rfl) (by decide) open_api_Item encItm (fun _ => rfl) (encItm zItm) rfl).map id (fun _ => rfl) (fun _ h => h.2)
theorem openV_s_api_Item : OpensV Tryd.prog 22 encItms (fun l => l.length ≤ Go.maxLen) := Opens.one open_s_api_Item (cells_slice' Tryd.underlying22)
theorem open_api_Hold : Opens Tryd.prog 49 (fun c : Hld => (encHld c).cells) (fun _ => True) :=
  (Opens.struct Tryd.underlying49 (OpensF.cons (n := 1) rfl (by kernel_rfl) open_int (fun _ => rfl) (OpensF.cons (n := 1) rfl (by kernel_rfl) open_int (fun _ => rfl) (OpensF.cons (n := 1) rfl (by kernel_rfl) open_int (fun _ => rfl) (OpensF.cons (n := 1) rfl (by kernel_rfl) open_int (fun _ => rfl) (OpensF.cons (n := 1) rfl (by kernel_rfl) open_int (fun _ => rfl) (OpensF.cons (n := 1) rfl (by kernel_rfl) open_int (fun _ => rfl) (OpensF.cons (n := 1) rfl (by kernel_rfl) open_int (fun _ => rfl) (OpensF.cons (n := 1) rfl (by kernel_rfl) open_int (fun _ => rfl) (OpensF.cons (n := 1) rfl (by kernel_rfl) open_int (fun _ => rfl) (OpensF.cons (n := 1) rfl (by kernel_rfl) open_int (fun _ => rfl) (OpensF.cons (n := 1) rfl (by kernel_rfl) open_int (fun _ => rfl) OpensF.nil))))))))))) (fun _ => by kernel_rfl)).map (fun p => (⟨p.1, p.2.1, p.2.2.1, p.2.2.2.1, p.2.2.2.2.1, p.2.2.2.2.2.1, p.2.2.2.2.2.2.1, p.2.2.2.2.2.2.2.1, p.2.2.2.2.2.2.2.2.1, p.2.2.2.2.2.2.2.2.2.1, p.2.2.2.2.2.2.2.2.2.2.1⟩ : Hld)) (fun _ => rfl) (fun _ _ => trivial)
theorem openV_api_Hold : OpensV Tryd.prog 49 encHld (fun _ => True) := Opens.agg Tryd.underlying49 open_api_Hold
theorem open_s_api_Hold : Opens Tryd.prog 25 (fun l : List Hld => [encHlds l]) (fun l => l.length ≤ Go.maxLen) :=
  (Opens.slice Tryd.underlying25 (by kernel_rfl) (by decide) open_api_Hold encHld (fun _ => rfl) (encHld zHld) rfl).map id (fun _ => rfl) (fun _ h => h.2)
theorem openV_s_api_Hold : OpensV Tryd.prog 25 encHlds (fun l => l.length ≤ Go.maxLen) := Opens.one open_s_api_Hold (cells_slice' Tryd.underlying25)
theorem open_a4_api_Calendar : Opens Tryd.prog 31 calsC (fun _ => True) :=
  (Opens.arrS (n := 4) (m := 2) Tryd.underlying31 (by kernel_rfl) (by kernel_rfl) open_api_Calendar).mapOk (fun l => ⟨l.getD 0 zCalN, l.getD 1 zCalN, l.getD 2 zCalN, l.getD 3 zCalN⟩) (fun l h => by obtain ⟨h1, _⟩ := h; match l, h1 with | [x0, x1, x2, x3], _ => rfl) (fun _ _ => trivial)
theorem open_api_Circ : Opens Tryd.prog 34 (fun c : Circ => (encCirc c).cells) (fun _ => True) :=
  (Opens.struct Tryd.underlying34 (OpensF.cons (n := 1) rfl (by kernel_rfl) open_int (fun _ => rfl) (OpensF.cons (n := 1) rfl (by kernel_rfl) open_s_api_Item (fun _ => rfl) (OpensF.cons (n := 1) rfl (by kernel_rfl) open_s_api_Patron (fun _ => rfl) (OpensF.cons (n := 1) rfl (by kernel_rfl) open_s_api_Loan (fun _ => rfl) (OpensF.cons (n := 1) rfl (by kernel_rfl) open_s_api_Hold (fun _ => rfl) (OpensF.cons (n := 1) rfl (by kernel_rfl) open_s_api_Charge (fun _ => rfl) (OpensF.cons (n := 1) rfl (by kernel_rfl) open_s_api_Rule (fun _ => rfl) (OpensF.cons (n := 8) rfl (by kernel_rfl) open_a4_api_Calendar (fun _ => rfl) (OpensF.cons (n := 1) rfl (by kernel_rfl) open_s_api_Move (fun _ => rfl) (OpensF.cons (n := 1) rfl (by kernel_rfl) open_int (fun _ => rfl) (OpensF.cons (n := 1) rfl (by kernel_rfl) open_int (fun _ => rfl) (OpensF.cons (n := 1) rfl (by kernel_rfl) open_bool (fun _ => rfl) OpensF.nil)))))))))))) (fun _ => by kernel_rfl)).map (fun p => (⟨p.1, p.2.1, p.2.2.1, p.2.2.2.1, p.2.2.2.2.1, p.2.2.2.2.2.1, p.2.2.2.2.2.2.1, p.2.2.2.2.2.2.2.1, p.2.2.2.2.2.2.2.2.1, p.2.2.2.2.2.2.2.2.2.1, p.2.2.2.2.2.2.2.2.2.2.1, p.2.2.2.2.2.2.2.2.2.2.2.1⟩ : Circ)) (fun _ => rfl) (fun _ _ => trivial)
theorem openV_api_Circ : OpensV Tryd.prog 34 encCirc (fun _ => True) := Opens.agg Tryd.underlying34 open_api_Circ

end Go.Proofs.YtjpjndfdncalfaaDoor
