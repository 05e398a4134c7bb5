/-
  What the functions compute that the statement reaches: contracts, and the plain laws between them. Conditions stand at each theorem.
-/
import Derived.Test.YtjpjndfdncalfaaDoorWalkTwo
set_option linter.unusedVariables false
set_option linter.unusedSimpArgs false
set_option maxRecDepth 100000
set_option linter.unusedSimpArgs false
set_option linter.unusedVariables false
namespace Go.Proofs.YtjpjndfdncalfaaDoor
open Go Ab Pl
@[simp] noncomputable def zt24x1 (a : Note) : List C := [C.d (D.int IntKind.i64 a.kind), C.d (D.int IntKind.i64 a.patron), C.d (D.int IntKind.i64 a.item), C.d (D.int IntKind.i64 a.day)]
@[simp] noncomputable def zt24x2 (b : Note) : List C := [C.d (D.int IntKind.i64 b.kind), C.d (D.int IntKind.i64 b.patron), C.d (D.int IntKind.i64 b.item), C.d (D.int IntKind.i64 b.day)]
@[simp] noncomputable def zt24x3 (a : Note) : D := (D.agg [D.int IntKind.i64 a.kind, D.int IntKind.i64 a.patron, D.int IntKind.i64 a.item, D.int IntKind.i64 a.day])
@[simp] noncomputable def zt24x4 (b : Note) : D := (D.agg [D.int IntKind.i64 b.kind, D.int IntKind.i64 b.patron, D.int IntKind.i64 b.item, D.int IntKind.i64 b.day])
set_option maxHeartbeats 4000000 in
theorem notice_Due_1 (a b : Note) : ACalls E.P 24 [encNote a, encNote b] (.d (.int .i64 (cmpN a b))) := by
  refine ACalls.intro E_ok Tryd.func24 rfl rfl Tryd.ntmps24 Tryd.results24 (Nat.le_of_ble_eq_true rfl) fun hok base S0 w0 => ?_
  have hc1 := cmpI_rng a.patron b.patron
  have hc2 := cmpI_rng a.kind b.kind
  have hc3 := cmpI_rng a.item b.item
  have hc4 := cmpN_rng a b
  have hc5 : orF [cmpI a.patron b.patron, cmpI a.kind b.kind, cmpI a.item b.item] = cmpN a b := rfl
  -- region 0
  refine AWp.rseq E_ok [0, 1, 2, 3, 4] fun K hK => ?_
  simp [encNote, hc5]
  repeat refine ⟨by first | omega | assumption | (simp only [maxLen]; omega) | (intros; omega) | decide, ?_⟩
  refine hK _ ?_
  clear hK K
  -- region 1, every order
  refine AWp.rseqS E_ok mixed [0, 1, 2, 3, 4] (n := 18) (l := #[false, false, false, false, false, false, false, false, false, false, false, false, false, false, false, false, false, false]) rfl (by kernel_rfl) fun K hK => ?_
  suffices hnext : K [(0, T.val (zt24x3 a)), (1, T.val (zt24x4 b)), (2, T.box (zt24x1 a)), (3, T.box (zt24x2 b)), (4, T.val (D.int IntKind.i64 (cmpN a b)))] by
    refine contS.cut 0 #[true, true, true, true, true, true, true, true, true, true, true, true, true, true, true, true, true, true] [(0, T.val (zt24x3 a)), (1, T.val (zt24x4 b)), (2, T.box (zt24x1 a)), (3, T.box (zt24x2 b)), (4, T.val (D.int IntKind.i64 (cmpN a b)))] ?_ fun h_1_3_4_6_8_9_11_13_14_15_16_ => ?_
    · skip
      refine coreS.nil (by kernel_rfl) ?_
      simpa [encNote] using hnext
    refine contS.cut 2 #[true, true, true, true, true, true, true, true, true, true, true, true, true, true, true, true, false, false] [(0, T.val (zt24x3 a)), (1, T.val (zt24x4 b)), (2, T.box (zt24x1 a)), (3, T.box (zt24x2 b)), (4, T.val (D.int IntKind.i64 (0 : Int))), (20, T.own true (D.int IntKind.i64 (0 : Int)) [D.int IntKind.i64 (cmpI a.patron b.patron), D.int IntKind.i64 (cmpI a.kind b.kind), D.int IntKind.i64 (cmpI a.item b.item)])] ?_ fun h_1_3_4_6_8_9_11_13_14_15 => ?_
    · skip
      refine coreS.step E_ok [16] (by kernel_rfl) (by simp) ?_
      refine anyS.cons rfl ?_ ?_
      · skip
        simp [encNote, hc5]
        skip
        refine meet.of (cmp_Or_int [cmpI a.patron b.patron, cmpI a.kind b.kind, cmpI a.item b.item]) ?_
        simp [encNote, hc5]
        skip
        refine contS.now (f' := 1) (l' := #[true, true, true, true, true, true, true, true, true, true, true, true, true, true, true, true, true, false]) ?_ rfl (by kernel_rfl)
        refine coreS.dry E_ok (by kernel_rfl) 17 rfl rfl (by kernel_rfl) (by kernel_rfl) ?_
        simp [encNote, hc5]
        skip
        exact contS.mk (by simp [Weak, TW, T.plain, encNote]) h_1_3_4_6_8_9_11_13_14_15_16_ (by kernel_rfl)
      exact anyS.nil
    refine contS.cut 3 #[true, true, true, true, true, true, true, true, true, true, true, true, true, true, true, false, false, false] [(0, T.val (zt24x3 a)), (1, T.val (zt24x4 b)), (2, T.box (zt24x1 a)), (3, T.box (zt24x2 b)), (4, T.val (D.int IntKind.i64 (0 : Int))), (9, T.val (D.int IntKind.i64 (cmpI a.patron b.patron))), (14, T.val (D.int IntKind.i64 (cmpI a.kind b.kind))), (19, T.val (D.int IntKind.i64 (cmpI a.item b.item)))] ?_ fun h_1_3_4_6_8_9_11_13_14 => ?_
    · skip
      refine coreS.step E_ok [15] (by kernel_rfl) (by simp) ?_
      refine anyS.cons rfl ?_ ?_
      · skip
        simp [encNote, hc5]
        skip
        exact contS.mk (by simp [Weak, TW, T.plain, encNote]) h_1_3_4_6_8_9_11_13_14_15 (by kernel_rfl)
      exact anyS.nil
    refine contS.cut 4 #[true, true, true, true, true, true, true, true, true, true, true, true, true, true, false, false, false, false] [(0, T.val (zt24x3 a)), (1, T.val (zt24x4 b)), (2, T.box (zt24x1 a)), (3, T.box (zt24x2 b)), (4, T.val (D.int IntKind.i64 (0 : Int))), (9, T.val (D.int IntKind.i64 (cmpI a.patron b.patron))), (14, T.val (D.int IntKind.i64 (cmpI a.kind b.kind))), (16, T.val (D.int IntKind.i64 a.item)), (18, T.val (D.int IntKind.i64 b.item))] ?_ fun h_1_3_4_6_8_9_11_13 => ?_
    · skip
      refine coreS.step E_ok [14] (by kernel_rfl) (by simp) ?_
      refine anyS.cons rfl ?_ ?_
      · skip
        simp [encNote, hc5]
        skip
        refine meet.of (cmp_Compare_int a.item b.item) ?_
        simp [encNote, hc5]
        skip
        exact contS.mk (by simp [Weak, TW, T.plain, encNote]) h_1_3_4_6_8_9_11_13_14 (by kernel_rfl)
      exact anyS.nil
    refine contS.cut 5 #[true, true, true, true, true, true, true, true, true, true, true, true, true, false, false, false, false, false] [(0, T.val (zt24x3 a)), (1, T.val (zt24x4 b)), (2, T.box (zt24x1 a)), (3, T.box (zt24x2 b)), (4, T.val (D.int IntKind.i64 (0 : Int))), (9, T.val (D.int IntKind.i64 (cmpI a.patron b.patron))), (14, T.val (D.int IntKind.i64 (cmpI a.kind b.kind))), (16, T.val (D.int IntKind.i64 a.item)), (17, T.ptr 3 2)] ?_ fun h_1_3_4_6_8_9_11 => ?_
    · skip
      refine coreS.step E_ok [13] (by kernel_rfl) (by simp) ?_
      refine anyS.cons rfl ?_ ?_
      · skip
        simp [encNote, hc5]
        skip
        exact contS.mk (by simp [Weak, TW, T.plain, encNote]) h_1_3_4_6_8_9_11_13 (by kernel_rfl)
      exact anyS.nil
    refine contS.cut 5 #[true, true, true, true, true, true, true, true, true, true, true, false, true, true, false, false, false, false] [(0, T.val (zt24x3 a)), (1, T.val (zt24x4 b)), (2, T.box (zt24x1 a)), (3, T.box (zt24x2 b)), (4, T.val (D.int IntKind.i64 (0 : Int))), (9, T.val (D.int IntKind.i64 (cmpI a.patron b.patron))), (14, T.val (D.int IntKind.i64 (cmpI a.kind b.kind))), (15, T.ptr 2 2), (18, T.val (D.int IntKind.i64 b.item))] ?_ fun h_1_3_4_6_8_9_13 => ?_
    · skip
      refine coreS.step E_ok [11] (by kernel_rfl) (by simp) ?_
      refine anyS.cons rfl ?_ ?_
      · skip
        simp [encNote, hc5]
        skip
        exact contS.mk (by simp [Weak, TW, T.plain, encNote]) h_1_3_4_6_8_9_11_13 (by kernel_rfl)
      exact anyS.nil
    refine contS.cut 5 #[true, true, true, true, true, true, true, true, true, false, true, true, true, true, false, false, false, false] [(0, T.val (zt24x3 a)), (1, T.val (zt24x4 b)), (2, T.box (zt24x1 a)), (3, T.box (zt24x2 b)), (4, T.val (D.int IntKind.i64 (0 : Int))), (9, T.val (D.int IntKind.i64 (cmpI a.patron b.patron))), (11, T.val (D.int IntKind.i64 a.kind)), (13, T.val (D.int IntKind.i64 b.kind)), (16, T.val (D.int IntKind.i64 a.item)), (18, T.val (D.int IntKind.i64 b.item))] ?_ fun h_1_3_4_6_8_11_13 => ?_
    · skip
      refine coreS.step E_ok [9] (by kernel_rfl) (by simp) ?_
      refine anyS.cons rfl ?_ ?_
      · skip
        simp [encNote, hc5]
        skip
        refine meet.of (cmp_Compare_int a.kind b.kind) ?_
        simp [encNote, hc5]
        skip
        exact contS.mk (by simp [Weak, TW, T.plain, encNote]) h_1_3_4_6_8_9_11_13 (by kernel_rfl)
      exact anyS.nil
    refine contS.cut 6 #[true, true, true, true, true, true, true, true, true, true, true, false, true, false, false, false, false, false] [(0, T.val (zt24x3 a)), (1, T.val (zt24x4 b)), (2, T.box (zt24x1 a)), (3, T.box (zt24x2 b)), (4, T.val (D.int IntKind.i64 (0 : Int))), (9, T.val (D.int IntKind.i64 (cmpI a.patron b.patron))), (14, T.val (D.int IntKind.i64 (cmpI a.kind b.kind))), (15, T.ptr 2 2), (17, T.ptr 3 2)] ?_ fun h_1_3_4_6_8_9 => ?_
    · skip
      refine coreS.step E_ok [11, 13] (by kernel_rfl) (by simp) ?_
      refine anyS.cons rfl ?_ ?_
      · skip
        simp [encNote, hc5]
        skip
        exact contS.mk (by simp [Weak, TW, T.plain, encNote]) h_1_3_4_6_8_9_11 (by kernel_rfl)
      refine anyS.cons rfl ?_ ?_
      · skip
        simp [encNote, hc5]
        skip
        exact contS.mk (by simp [Weak, TW, T.plain, encNote]) h_1_3_4_6_8_9_13 (by kernel_rfl)
      exact anyS.nil
    refine contS.cut 6 #[true, true, true, true, true, true, true, true, true, false, true, true, true, false, false, false, false, false] [(0, T.val (zt24x3 a)), (1, T.val (zt24x4 b)), (2, T.box (zt24x1 a)), (3, T.box (zt24x2 b)), (4, T.val (D.int IntKind.i64 (0 : Int))), (9, T.val (D.int IntKind.i64 (cmpI a.patron b.patron))), (11, T.val (D.int IntKind.i64 a.kind)), (13, T.val (D.int IntKind.i64 b.kind)), (16, T.val (D.int IntKind.i64 a.item)), (17, T.ptr 3 2)] ?_ fun h_1_3_4_6_8_11 => ?_
    · skip
      refine coreS.step E_ok [9, 13] (by kernel_rfl) (by simp) ?_
      refine anyS.cons rfl ?_ ?_
      · skip
        simp [encNote, hc5]
        skip
        refine meet.of (cmp_Compare_int a.kind b.kind) ?_
        simp [encNote, hc5]
        skip
        exact contS.mk (by simp [Weak, TW, T.plain, encNote]) h_1_3_4_6_8_9_11 (by kernel_rfl)
      refine anyS.cons rfl ?_ ?_
      · skip
        simp [encNote, hc5]
        skip
        exact contS.mk (by simp [Weak, TW, T.plain, encNote]) h_1_3_4_6_8_11_13 (by kernel_rfl)
      exact anyS.nil
    refine contS.cut 6 #[true, true, true, true, true, true, true, true, true, false, true, false, true, true, false, false, false, false] [(0, T.val (zt24x3 a)), (1, T.val (zt24x4 b)), (2, T.box (zt24x1 a)), (3, T.box (zt24x2 b)), (4, T.val (D.int IntKind.i64 (0 : Int))), (9, T.val (D.int IntKind.i64 (cmpI a.patron b.patron))), (11, T.val (D.int IntKind.i64 a.kind)), (13, T.val (D.int IntKind.i64 b.kind)), (15, T.ptr 2 2), (18, T.val (D.int IntKind.i64 b.item))] ?_ fun h_1_3_4_6_8_13 => ?_
    · skip
      refine coreS.step E_ok [9, 11] (by kernel_rfl) (by simp) ?_
      refine anyS.cons rfl ?_ ?_
      · skip
        simp [encNote, hc5]
        skip
        refine meet.of (cmp_Compare_int a.kind b.kind) ?_
        simp [encNote, hc5]
        skip
        exact contS.mk (by simp [Weak, TW, T.plain, encNote]) h_1_3_4_6_8_9_13 (by kernel_rfl)
      refine anyS.cons rfl ?_ ?_
      · skip
        simp [encNote, hc5]
        skip
        exact contS.mk (by simp [Weak, TW, T.plain, encNote]) h_1_3_4_6_8_11_13 (by kernel_rfl)
      exact anyS.nil
    refine contS.cut 6 #[true, true, true, true, true, true, true, true, false, false, true, true, true, true, false, false, false, false] [(0, T.val (zt24x3 a)), (1, T.val (zt24x4 b)), (2, T.box (zt24x1 a)), (3, T.box (zt24x2 b)), (4, T.val (D.int IntKind.i64 (0 : Int))), (9, T.val (D.int IntKind.i64 (cmpI a.patron b.patron))), (11, T.val (D.int IntKind.i64 a.kind)), (12, T.ptr 3 0), (16, T.val (D.int IntKind.i64 a.item)), (18, T.val (D.int IntKind.i64 b.item))] ?_ fun h_1_3_4_6_11_13 => ?_
    · skip
      refine coreS.step E_ok [8] (by kernel_rfl) (by simp) ?_
      refine anyS.cons rfl ?_ ?_
      · skip
        simp [encNote, hc5]
        skip
        exact contS.mk (by simp [Weak, TW, T.plain, encNote]) h_1_3_4_6_8_11_13 (by kernel_rfl)
      exact anyS.nil
    refine contS.cut 6 #[true, true, true, true, true, true, false, true, true, false, true, true, true, true, false, false, false, false] [(0, T.val (zt24x3 a)), (1, T.val (zt24x4 b)), (2, T.box (zt24x1 a)), (3, T.box (zt24x2 b)), (4, T.val (D.int IntKind.i64 (0 : Int))), (9, T.val (D.int IntKind.i64 (cmpI a.patron b.patron))), (10, T.ptr 2 0), (13, T.val (D.int IntKind.i64 b.kind)), (16, T.val (D.int IntKind.i64 a.item)), (18, T.val (D.int IntKind.i64 b.item))] ?_ fun h_1_3_4_8_11_13 => ?_
    · skip
      refine coreS.step E_ok [6] (by kernel_rfl) (by simp) ?_
      refine anyS.cons rfl ?_ ?_
      · skip
        simp [encNote, hc5]
        skip
        exact contS.mk (by simp [Weak, TW, T.plain, encNote]) h_1_3_4_6_8_11_13 (by kernel_rfl)
      exact anyS.nil
    refine contS.cut 6 #[true, true, true, true, false, true, true, true, true, false, true, true, true, true, false, false, false, false] [(0, T.val (zt24x3 a)), (1, T.val (zt24x4 b)), (2, T.box (zt24x1 a)), (3, T.box (zt24x2 b)), (4, T.val (D.int IntKind.i64 (0 : Int))), (6, T.val (D.int IntKind.i64 a.patron)), (8, T.val (D.int IntKind.i64 b.patron)), (11, T.val (D.int IntKind.i64 a.kind)), (13, T.val (D.int IntKind.i64 b.kind)), (16, T.val (D.int IntKind.i64 a.item)), (18, T.val (D.int IntKind.i64 b.item))] ?_ fun h_1_3_6_8_11_13 => ?_
    · skip
      refine coreS.step E_ok [4] (by kernel_rfl) (by simp) ?_
      refine anyS.cons rfl ?_ ?_
      · skip
        simp [encNote, hc5]
        skip
        refine meet.of (cmp_Compare_int a.patron b.patron) ?_
        simp [encNote, hc5]
        skip
        exact contS.mk (by simp [Weak, TW, T.plain, encNote]) h_1_3_4_6_8_11_13 (by kernel_rfl)
      exact anyS.nil
    refine contS.cut 7 #[true, true, true, true, true, true, true, true, true, false, true, false, true, false, false, false, false, false] [(0, T.val (zt24x3 a)), (1, T.val (zt24x4 b)), (2, T.box (zt24x1 a)), (3, T.box (zt24x2 b)), (4, T.val (D.int IntKind.i64 (0 : Int))), (9, T.val (D.int IntKind.i64 (cmpI a.patron b.patron))), (11, T.val (D.int IntKind.i64 a.kind)), (13, T.val (D.int IntKind.i64 b.kind)), (15, T.ptr 2 2), (17, T.ptr 3 2)] ?_ fun h_1_3_4_6_8 => ?_
    · skip
      refine coreS.step E_ok [9, 11, 13] (by kernel_rfl) (by simp) ?_
      refine anyS.cons rfl ?_ ?_
      · skip
        simp [encNote, hc5]
        skip
        refine meet.of (cmp_Compare_int a.kind b.kind) ?_
        simp [encNote, hc5]
        skip
        exact contS.mk (by simp [Weak, TW, T.plain, encNote]) h_1_3_4_6_8_9 (by kernel_rfl)
      refine anyS.cons rfl ?_ ?_
      · skip
        simp [encNote, hc5]
        skip
        exact contS.mk (by simp [Weak, TW, T.plain, encNote]) h_1_3_4_6_8_11 (by kernel_rfl)
      refine anyS.cons rfl ?_ ?_
      · skip
        simp [encNote, hc5]
        skip
        exact contS.mk (by simp [Weak, TW, T.plain, encNote]) h_1_3_4_6_8_13 (by kernel_rfl)
      exact anyS.nil
    refine contS.cut 7 #[true, true, true, true, true, true, true, true, false, false, true, true, true, false, false, false, false, false] [(0, T.val (zt24x3 a)), (1, T.val (zt24x4 b)), (2, T.box (zt24x1 a)), (3, T.box (zt24x2 b)), (4, T.val (D.int IntKind.i64 (0 : Int))), (9, T.val (D.int IntKind.i64 (cmpI a.patron b.patron))), (11, T.val (D.int IntKind.i64 a.kind)), (12, T.ptr 3 0), (16, T.val (D.int IntKind.i64 a.item)), (17, T.ptr 3 2)] ?_ fun h_1_3_4_6_11 => ?_
    · skip
      refine coreS.step E_ok [8, 13] (by kernel_rfl) (by simp) ?_
      refine anyS.cons rfl ?_ ?_
      · skip
        simp [encNote, hc5]
        skip
        exact contS.mk (by simp [Weak, TW, T.plain, encNote]) h_1_3_4_6_8_11 (by kernel_rfl)
      refine anyS.cons rfl ?_ ?_
      · skip
        simp [encNote, hc5]
        skip
        exact contS.mk (by simp [Weak, TW, T.plain, encNote]) h_1_3_4_6_11_13 (by kernel_rfl)
      exact anyS.nil
    refine contS.cut 7 #[true, true, true, true, true, true, true, true, false, false, true, false, true, true, false, false, false, false] [(0, T.val (zt24x3 a)), (1, T.val (zt24x4 b)), (2, T.box (zt24x1 a)), (3, T.box (zt24x2 b)), (4, T.val (D.int IntKind.i64 (0 : Int))), (9, T.val (D.int IntKind.i64 (cmpI a.patron b.patron))), (11, T.val (D.int IntKind.i64 a.kind)), (12, T.ptr 3 0), (15, T.ptr 2 2), (18, T.val (D.int IntKind.i64 b.item))] ?_ fun h_1_3_4_6_13 => ?_
    · skip
      refine coreS.step E_ok [8, 11] (by kernel_rfl) (by simp) ?_
      refine anyS.cons rfl ?_ ?_
      · skip
        simp [encNote, hc5]
        skip
        exact contS.mk (by simp [Weak, TW, T.plain, encNote]) h_1_3_4_6_8_13 (by kernel_rfl)
      refine anyS.cons rfl ?_ ?_
      · skip
        simp [encNote, hc5]
        skip
        exact contS.mk (by simp [Weak, TW, T.plain, encNote]) h_1_3_4_6_11_13 (by kernel_rfl)
      exact anyS.nil
    refine contS.cut 7 #[true, true, true, true, true, true, false, true, true, false, true, true, true, false, false, false, false, false] [(0, T.val (zt24x3 a)), (1, T.val (zt24x4 b)), (2, T.box (zt24x1 a)), (3, T.box (zt24x2 b)), (4, T.val (D.int IntKind.i64 (0 : Int))), (9, T.val (D.int IntKind.i64 (cmpI a.patron b.patron))), (10, T.ptr 2 0), (13, T.val (D.int IntKind.i64 b.kind)), (16, T.val (D.int IntKind.i64 a.item)), (17, T.ptr 3 2)] ?_ fun h_1_3_4_8_11 => ?_
    · skip
      refine coreS.step E_ok [6, 13] (by kernel_rfl) (by simp) ?_
      refine anyS.cons rfl ?_ ?_
      · skip
        simp [encNote, hc5]
        skip
        exact contS.mk (by simp [Weak, TW, T.plain, encNote]) h_1_3_4_6_8_11 (by kernel_rfl)
      refine anyS.cons rfl ?_ ?_
      · skip
        simp [encNote, hc5]
        skip
        exact contS.mk (by simp [Weak, TW, T.plain, encNote]) h_1_3_4_8_11_13 (by kernel_rfl)
      exact anyS.nil
    refine contS.cut 7 #[true, true, true, true, true, true, false, true, true, false, true, false, true, true, false, false, false, false] [(0, T.val (zt24x3 a)), (1, T.val (zt24x4 b)), (2, T.box (zt24x1 a)), (3, T.box (zt24x2 b)), (4, T.val (D.int IntKind.i64 (0 : Int))), (9, T.val (D.int IntKind.i64 (cmpI a.patron b.patron))), (10, T.ptr 2 0), (13, T.val (D.int IntKind.i64 b.kind)), (15, T.ptr 2 2), (18, T.val (D.int IntKind.i64 b.item))] ?_ fun h_1_3_4_8_13 => ?_
    · skip
      refine coreS.step E_ok [6, 11] (by kernel_rfl) (by simp) ?_
      refine anyS.cons rfl ?_ ?_
      · skip
        simp [encNote, hc5]
        skip
        exact contS.mk (by simp [Weak, TW, T.plain, encNote]) h_1_3_4_6_8_13 (by kernel_rfl)
      refine anyS.cons rfl ?_ ?_
      · skip
        simp [encNote, hc5]
        skip
        exact contS.mk (by simp [Weak, TW, T.plain, encNote]) h_1_3_4_8_11_13 (by kernel_rfl)
      exact anyS.nil
    refine contS.cut 7 #[true, true, true, true, true, true, false, true, false, false, true, true, true, true, false, false, false, false] [(0, T.val (zt24x3 a)), (1, T.val (zt24x4 b)), (2, T.box (zt24x1 a)), (3, T.box (zt24x2 b)), (4, T.val (D.int IntKind.i64 (0 : Int))), (9, T.val (D.int IntKind.i64 (cmpI a.patron b.patron))), (10, T.ptr 2 0), (12, T.ptr 3 0), (16, T.val (D.int IntKind.i64 a.item)), (18, T.val (D.int IntKind.i64 b.item))] ?_ fun h_1_3_4_11_13 => ?_
    · skip
      refine coreS.step E_ok [6, 8] (by kernel_rfl) (by simp) ?_
      refine anyS.cons rfl ?_ ?_
      · skip
        simp [encNote, hc5]
        skip
        exact contS.mk (by simp [Weak, TW, T.plain, encNote]) h_1_3_4_6_11_13 (by kernel_rfl)
      refine anyS.cons rfl ?_ ?_
      · skip
        simp [encNote, hc5]
        skip
        exact contS.mk (by simp [Weak, TW, T.plain, encNote]) h_1_3_4_8_11_13 (by kernel_rfl)
      exact anyS.nil
    refine contS.cut 7 #[true, true, true, true, false, true, true, true, true, false, true, true, true, false, false, false, false, false] [(0, T.val (zt24x3 a)), (1, T.val (zt24x4 b)), (2, T.box (zt24x1 a)), (3, T.box (zt24x2 b)), (4, T.val (D.int IntKind.i64 (0 : Int))), (6, T.val (D.int IntKind.i64 a.patron)), (8, T.val (D.int IntKind.i64 b.patron)), (11, T.val (D.int IntKind.i64 a.kind)), (13, T.val (D.int IntKind.i64 b.kind)), (16, T.val (D.int IntKind.i64 a.item)), (17, T.ptr 3 2)] ?_ fun h_1_3_6_8_11 => ?_
    · skip
      refine coreS.step E_ok [4, 13] (by kernel_rfl) (by simp) ?_
      refine anyS.cons rfl ?_ ?_
      · skip
        simp [encNote, hc5]
        skip
        refine meet.of (cmp_Compare_int a.patron b.patron) ?_
        simp [encNote, hc5]
        skip
        exact contS.mk (by simp [Weak, TW, T.plain, encNote]) h_1_3_4_6_8_11 (by kernel_rfl)
      refine anyS.cons rfl ?_ ?_
      · skip
        simp [encNote, hc5]
        skip
        exact contS.mk (by simp [Weak, TW, T.plain, encNote]) h_1_3_6_8_11_13 (by kernel_rfl)
      exact anyS.nil
    refine contS.cut 7 #[true, true, true, true, false, true, true, true, true, false, true, false, true, true, false, false, false, false] [(0, T.val (zt24x3 a)), (1, T.val (zt24x4 b)), (2, T.box (zt24x1 a)), (3, T.box (zt24x2 b)), (4, T.val (D.int IntKind.i64 (0 : Int))), (6, T.val (D.int IntKind.i64 a.patron)), (8, T.val (D.int IntKind.i64 b.patron)), (11, T.val (D.int IntKind.i64 a.kind)), (13, T.val (D.int IntKind.i64 b.kind)), (15, T.ptr 2 2), (18, T.val (D.int IntKind.i64 b.item))] ?_ fun h_1_3_6_8_13 => ?_
    · skip
      refine coreS.step E_ok [4, 11] (by kernel_rfl) (by simp) ?_
      refine anyS.cons rfl ?_ ?_
      · skip
        simp [encNote, hc5]
        skip
        refine meet.of (cmp_Compare_int a.patron b.patron) ?_
        simp [encNote, hc5]
        skip
        exact contS.mk (by simp [Weak, TW, T.plain, encNote]) h_1_3_4_6_8_13 (by kernel_rfl)
      refine anyS.cons rfl ?_ ?_
      · skip
        simp [encNote, hc5]
        skip
        exact contS.mk (by simp [Weak, TW, T.plain, encNote]) h_1_3_6_8_11_13 (by kernel_rfl)
      exact anyS.nil
    refine contS.cut 7 #[true, true, true, true, false, true, true, true, false, false, true, true, true, true, false, false, false, false] [(0, T.val (zt24x3 a)), (1, T.val (zt24x4 b)), (2, T.box (zt24x1 a)), (3, T.box (zt24x2 b)), (4, T.val (D.int IntKind.i64 (0 : Int))), (6, T.val (D.int IntKind.i64 a.patron)), (8, T.val (D.int IntKind.i64 b.patron)), (11, T.val (D.int IntKind.i64 a.kind)), (12, T.ptr 3 0), (16, T.val (D.int IntKind.i64 a.item)), (18, T.val (D.int IntKind.i64 b.item))] ?_ fun h_1_3_6_11_13 => ?_
    · skip
      refine coreS.step E_ok [4, 8] (by kernel_rfl) (by simp) ?_
      refine anyS.cons rfl ?_ ?_
      · skip
        simp [encNote, hc5]
        skip
        refine meet.of (cmp_Compare_int a.patron b.patron) ?_
        simp [encNote, hc5]
        skip
        exact contS.mk (by simp [Weak, TW, T.plain, encNote]) h_1_3_4_6_11_13 (by kernel_rfl)
      refine anyS.cons rfl ?_ ?_
      · skip
        simp [encNote, hc5]
        skip
        exact contS.mk (by simp [Weak, TW, T.plain, encNote]) h_1_3_6_8_11_13 (by kernel_rfl)
      exact anyS.nil
    refine contS.cut 7 #[true, true, true, true, false, true, false, true, true, false, true, true, true, true, false, false, false, false] [(0, T.val (zt24x3 a)), (1, T.val (zt24x4 b)), (2, T.box (zt24x1 a)), (3, T.box (zt24x2 b)), (4, T.val (D.int IntKind.i64 (0 : Int))), (6, T.val (D.int IntKind.i64 a.patron)), (8, T.val (D.int IntKind.i64 b.patron)), (10, T.ptr 2 0), (13, T.val (D.int IntKind.i64 b.kind)), (16, T.val (D.int IntKind.i64 a.item)), (18, T.val (D.int IntKind.i64 b.item))] ?_ fun h_1_3_8_11_13 => ?_
    · skip
      refine coreS.step E_ok [4, 6] (by kernel_rfl) (by simp) ?_
      refine anyS.cons rfl ?_ ?_
      · skip
        simp [encNote, hc5]
        skip
        refine meet.of (cmp_Compare_int a.patron b.patron) ?_
        simp [encNote, hc5]
        skip
        exact contS.mk (by simp [Weak, TW, T.plain, encNote]) h_1_3_4_8_11_13 (by kernel_rfl)
      refine anyS.cons rfl ?_ ?_
      · skip
        simp [encNote, hc5]
        skip
        exact contS.mk (by simp [Weak, TW, T.plain, encNote]) h_1_3_6_8_11_13 (by kernel_rfl)
      exact anyS.nil
    refine contS.cut 7 #[true, true, true, false, false, true, true, true, true, false, true, true, true, true, false, false, false, false] [(0, T.val (zt24x3 a)), (1, T.val (zt24x4 b)), (2, T.box (zt24x1 a)), (3, T.box (zt24x2 b)), (4, T.val (D.int IntKind.i64 (0 : Int))), (6, T.val (D.int IntKind.i64 a.patron)), (7, T.ptr 3 1), (11, T.val (D.int IntKind.i64 a.kind)), (13, T.val (D.int IntKind.i64 b.kind)), (16, T.val (D.int IntKind.i64 a.item)), (18, T.val (D.int IntKind.i64 b.item))] ?_ fun h_1_6_8_11_13 => ?_
    · skip
      refine coreS.step E_ok [3] (by kernel_rfl) (by simp) ?_
      refine anyS.cons rfl ?_ ?_
      · skip
        simp [encNote, hc5]
        skip
        exact contS.mk (by simp [Weak, TW, T.plain, encNote]) h_1_3_6_8_11_13 (by kernel_rfl)
      exact anyS.nil
    refine contS.cut 7 #[true, false, true, true, false, true, true, true, true, false, true, true, true, true, false, false, false, false] [(0, T.val (zt24x3 a)), (1, T.val (zt24x4 b)), (2, T.box (zt24x1 a)), (3, T.box (zt24x2 b)), (4, T.val (D.int IntKind.i64 (0 : Int))), (5, T.ptr 2 1), (8, T.val (D.int IntKind.i64 b.patron)), (11, T.val (D.int IntKind.i64 a.kind)), (13, T.val (D.int IntKind.i64 b.kind)), (16, T.val (D.int IntKind.i64 a.item)), (18, T.val (D.int IntKind.i64 b.item))] ?_ fun h_3_6_8_11_13 => ?_
    · skip
      refine coreS.step E_ok [1] (by kernel_rfl) (by simp) ?_
      refine anyS.cons rfl ?_ ?_
      · skip
        simp [encNote, hc5]
        skip
        exact contS.mk (by simp [Weak, TW, T.plain, encNote]) h_1_3_6_8_11_13 (by kernel_rfl)
      exact anyS.nil
    refine contS.cut 8 #[true, true, true, true, true, true, true, true, false, false, true, false, true, false, false, false, false, false] [(0, T.val (zt24x3 a)), (1, T.val (zt24x4 b)), (2, T.box (zt24x1 a)), (3, T.box (zt24x2 b)), (4, T.val (D.int IntKind.i64 (0 : Int))), (9, T.val (D.int IntKind.i64 (cmpI a.patron b.patron))), (11, T.val (D.int IntKind.i64 a.kind)), (12, T.ptr 3 0), (15, T.ptr 2 2), (17, T.ptr 3 2)] ?_ fun h_1_3_4_6 => ?_
    · skip
      refine coreS.step E_ok [8, 11, 13] (by kernel_rfl) (by simp) ?_
      refine anyS.cons rfl ?_ ?_
      · skip
        simp [encNote, hc5]
        skip
        exact contS.mk (by simp [Weak, TW, T.plain, encNote]) h_1_3_4_6_8 (by kernel_rfl)
      refine anyS.cons rfl ?_ ?_
      · skip
        simp [encNote, hc5]
        skip
        exact contS.mk (by simp [Weak, TW, T.plain, encNote]) h_1_3_4_6_11 (by kernel_rfl)
      refine anyS.cons rfl ?_ ?_
      · skip
        simp [encNote, hc5]
        skip
        exact contS.mk (by simp [Weak, TW, T.plain, encNote]) h_1_3_4_6_13 (by kernel_rfl)
      exact anyS.nil
    refine contS.cut 8 #[true, true, true, true, true, true, false, true, true, false, true, false, true, false, false, false, false, false] [(0, T.val (zt24x3 a)), (1, T.val (zt24x4 b)), (2, T.box (zt24x1 a)), (3, T.box (zt24x2 b)), (4, T.val (D.int IntKind.i64 (0 : Int))), (9, T.val (D.int IntKind.i64 (cmpI a.patron b.patron))), (10, T.ptr 2 0), (13, T.val (D.int IntKind.i64 b.kind)), (15, T.ptr 2 2), (17, T.ptr 3 2)] ?_ fun h_1_3_4_8 => ?_
    · skip
      refine coreS.step E_ok [6, 11, 13] (by kernel_rfl) (by simp) ?_
      refine anyS.cons rfl ?_ ?_
      · skip
        simp [encNote, hc5]
        skip
        exact contS.mk (by simp [Weak, TW, T.plain, encNote]) h_1_3_4_6_8 (by kernel_rfl)
      refine anyS.cons rfl ?_ ?_
      · skip
        simp [encNote, hc5]
        skip
        exact contS.mk (by simp [Weak, TW, T.plain, encNote]) h_1_3_4_8_11 (by kernel_rfl)
      refine anyS.cons rfl ?_ ?_
      · skip
        simp [encNote, hc5]
        skip
        exact contS.mk (by simp [Weak, TW, T.plain, encNote]) h_1_3_4_8_13 (by kernel_rfl)
      exact anyS.nil
    refine contS.cut 8 #[true, true, true, true, true, true, false, true, false, false, true, true, true, false, false, false, false, false] [(0, T.val (zt24x3 a)), (1, T.val (zt24x4 b)), (2, T.box (zt24x1 a)), (3, T.box (zt24x2 b)), (4, T.val (D.int IntKind.i64 (0 : Int))), (9, T.val (D.int IntKind.i64 (cmpI a.patron b.patron))), (10, T.ptr 2 0), (12, T.ptr 3 0), (16, T.val (D.int IntKind.i64 a.item)), (17, T.ptr 3 2)] ?_ fun h_1_3_4_11 => ?_
    · skip
      refine coreS.step E_ok [6, 8, 13] (by kernel_rfl) (by simp) ?_
      refine anyS.cons rfl ?_ ?_
      · skip
        simp [encNote, hc5]
        skip
        exact contS.mk (by simp [Weak, TW, T.plain, encNote]) h_1_3_4_6_11 (by kernel_rfl)
      refine anyS.cons rfl ?_ ?_
      · skip
        simp [encNote, hc5]
        skip
        exact contS.mk (by simp [Weak, TW, T.plain, encNote]) h_1_3_4_8_11 (by kernel_rfl)
      refine anyS.cons rfl ?_ ?_
      · skip
        simp [encNote, hc5]
        skip
        exact contS.mk (by simp [Weak, TW, T.plain, encNote]) h_1_3_4_11_13 (by kernel_rfl)
      exact anyS.nil
    refine contS.cut 8 #[true, true, true, true, true, true, false, true, false, false, true, false, true, true, false, false, false, false] [(0, T.val (zt24x3 a)), (1, T.val (zt24x4 b)), (2, T.box (zt24x1 a)), (3, T.box (zt24x2 b)), (4, T.val (D.int IntKind.i64 (0 : Int))), (9, T.val (D.int IntKind.i64 (cmpI a.patron b.patron))), (10, T.ptr 2 0), (12, T.ptr 3 0), (15, T.ptr 2 2), (18, T.val (D.int IntKind.i64 b.item))] ?_ fun h_1_3_4_13 => ?_
    · skip
      refine coreS.step E_ok [6, 8, 11] (by kernel_rfl) (by simp) ?_
      refine anyS.cons rfl ?_ ?_
      · skip
        simp [encNote, hc5]
        skip
        exact contS.mk (by simp [Weak, TW, T.plain, encNote]) h_1_3_4_6_13 (by kernel_rfl)
      refine anyS.cons rfl ?_ ?_
      · skip
        simp [encNote, hc5]
        skip
        exact contS.mk (by simp [Weak, TW, T.plain, encNote]) h_1_3_4_8_13 (by kernel_rfl)
      refine anyS.cons rfl ?_ ?_
      · skip
        simp [encNote, hc5]
        skip
        exact contS.mk (by simp [Weak, TW, T.plain, encNote]) h_1_3_4_11_13 (by kernel_rfl)
      exact anyS.nil
    refine contS.cut 8 #[true, true, true, true, false, true, true, true, true, false, true, false, true, false, false, false, false, false] [(0, T.val (zt24x3 a)), (1, T.val (zt24x4 b)), (2, T.box (zt24x1 a)), (3, T.box (zt24x2 b)), (4, T.val (D.int IntKind.i64 (0 : Int))), (6, T.val (D.int IntKind.i64 a.patron)), (8, T.val (D.int IntKind.i64 b.patron)), (11, T.val (D.int IntKind.i64 a.kind)), (13, T.val (D.int IntKind.i64 b.kind)), (15, T.ptr 2 2), (17, T.ptr 3 2)] ?_ fun h_1_3_6_8 => ?_
    · skip
      refine coreS.step E_ok [4, 11, 13] (by kernel_rfl) (by simp) ?_
      refine anyS.cons rfl ?_ ?_
      · skip
        simp [encNote, hc5]
        skip
        refine meet.of (cmp_Compare_int a.patron b.patron) ?_
        simp [encNote, hc5]
        skip
        exact contS.mk (by simp [Weak, TW, T.plain, encNote]) h_1_3_4_6_8 (by kernel_rfl)
      refine anyS.cons rfl ?_ ?_
      · skip
        simp [encNote, hc5]
        skip
        exact contS.mk (by simp [Weak, TW, T.plain, encNote]) h_1_3_6_8_11 (by kernel_rfl)
      refine anyS.cons rfl ?_ ?_
      · skip
        simp [encNote, hc5]
        skip
        exact contS.mk (by simp [Weak, TW, T.plain, encNote]) h_1_3_6_8_13 (by kernel_rfl)
      exact anyS.nil
    refine contS.cut 8 #[true, true, true, true, false, true, true, true, false, false, true, true, true, false, false, false, false, false] [(0, T.val (zt24x3 a)), (1, T.val (zt24x4 b)), (2, T.box (zt24x1 a)), (3, T.box (zt24x2 b)), (4, T.val (D.int IntKind.i64 (0 : Int))), (6, T.val (D.int IntKind.i64 a.patron)), (8, T.val (D.int IntKind.i64 b.patron)), (11, T.val (D.int IntKind.i64 a.kind)), (12, T.ptr 3 0), (16, T.val (D.int IntKind.i64 a.item)), (17, T.ptr 3 2)] ?_ fun h_1_3_6_11 => ?_
    · skip
      refine coreS.step E_ok [4, 8, 13] (by kernel_rfl) (by simp) ?_
      refine anyS.cons rfl ?_ ?_
      · skip
        simp [encNote, hc5]
        skip
        refine meet.of (cmp_Compare_int a.patron b.patron) ?_
        simp [encNote, hc5]
        skip
        exact contS.mk (by simp [Weak, TW, T.plain, encNote]) h_1_3_4_6_11 (by kernel_rfl)
      refine anyS.cons rfl ?_ ?_
      · skip
        simp [encNote, hc5]
        skip
        exact contS.mk (by simp [Weak, TW, T.plain, encNote]) h_1_3_6_8_11 (by kernel_rfl)
      refine anyS.cons rfl ?_ ?_
      · skip
        simp [encNote, hc5]
        skip
        exact contS.mk (by simp [Weak, TW, T.plain, encNote]) h_1_3_6_11_13 (by kernel_rfl)
      exact anyS.nil
    refine contS.cut 8 #[true, true, true, true, false, true, true, true, false, false, true, false, true, true, false, false, false, false] [(0, T.val (zt24x3 a)), (1, T.val (zt24x4 b)), (2, T.box (zt24x1 a)), (3, T.box (zt24x2 b)), (4, T.val (D.int IntKind.i64 (0 : Int))), (6, T.val (D.int IntKind.i64 a.patron)), (8, T.val (D.int IntKind.i64 b.patron)), (11, T.val (D.int IntKind.i64 a.kind)), (12, T.ptr 3 0), (15, T.ptr 2 2), (18, T.val (D.int IntKind.i64 b.item))] ?_ fun h_1_3_6_13 => ?_
    · skip
      refine coreS.step E_ok [4, 8, 11] (by kernel_rfl) (by simp) ?_
      refine anyS.cons rfl ?_ ?_
      · skip
        simp [encNote, hc5]
        skip
        refine meet.of (cmp_Compare_int a.patron b.patron) ?_
        simp [encNote, hc5]
        skip
        exact contS.mk (by simp [Weak, TW, T.plain, encNote]) h_1_3_4_6_13 (by kernel_rfl)
      refine anyS.cons rfl ?_ ?_
      · skip
        simp [encNote, hc5]
        skip
        exact contS.mk (by simp [Weak, TW, T.plain, encNote]) h_1_3_6_8_13 (by kernel_rfl)
      refine anyS.cons rfl ?_ ?_
      · skip
        simp [encNote, hc5]
        skip
        exact contS.mk (by simp [Weak, TW, T.plain, encNote]) h_1_3_6_11_13 (by kernel_rfl)
      exact anyS.nil
    refine contS.cut 8 #[true, true, true, true, false, true, false, true, true, false, true, true, true, false, false, false, false, false] [(0, T.val (zt24x3 a)), (1, T.val (zt24x4 b)), (2, T.box (zt24x1 a)), (3, T.box (zt24x2 b)), (4, T.val (D.int IntKind.i64 (0 : Int))), (6, T.val (D.int IntKind.i64 a.patron)), (8, T.val (D.int IntKind.i64 b.patron)), (10, T.ptr 2 0), (13, T.val (D.int IntKind.i64 b.kind)), (16, T.val (D.int IntKind.i64 a.item)), (17, T.ptr 3 2)] ?_ fun h_1_3_8_11 => ?_
    · skip
      refine coreS.step E_ok [4, 6, 13] (by kernel_rfl) (by simp) ?_
      refine anyS.cons rfl ?_ ?_
      · skip
        simp [encNote, hc5]
        skip
        refine meet.of (cmp_Compare_int a.patron b.patron) ?_
        simp [encNote, hc5]
        skip
        exact contS.mk (by simp [Weak, TW, T.plain, encNote]) h_1_3_4_8_11 (by kernel_rfl)
      refine anyS.cons rfl ?_ ?_
      · skip
        simp [encNote, hc5]
        skip
        exact contS.mk (by simp [Weak, TW, T.plain, encNote]) h_1_3_6_8_11 (by kernel_rfl)
      refine anyS.cons rfl ?_ ?_
      · skip
        simp [encNote, hc5]
        skip
        exact contS.mk (by simp [Weak, TW, T.plain, encNote]) h_1_3_8_11_13 (by kernel_rfl)
      exact anyS.nil
    refine contS.cut 8 #[true, true, true, true, false, true, false, true, true, false, true, false, true, true, false, false, false, false] [(0, T.val (zt24x3 a)), (1, T.val (zt24x4 b)), (2, T.box (zt24x1 a)), (3, T.box (zt24x2 b)), (4, T.val (D.int IntKind.i64 (0 : Int))), (6, T.val (D.int IntKind.i64 a.patron)), (8, T.val (D.int IntKind.i64 b.patron)), (10, T.ptr 2 0), (13, T.val (D.int IntKind.i64 b.kind)), (15, T.ptr 2 2), (18, T.val (D.int IntKind.i64 b.item))] ?_ fun h_1_3_8_13 => ?_
    · skip
      refine coreS.step E_ok [4, 6, 11] (by kernel_rfl) (by simp) ?_
      refine anyS.cons rfl ?_ ?_
      · skip
        simp [encNote, hc5]
        skip
        refine meet.of (cmp_Compare_int a.patron b.patron) ?_
        simp [encNote, hc5]
        skip
        exact contS.mk (by simp [Weak, TW, T.plain, encNote]) h_1_3_4_8_13 (by kernel_rfl)
      refine anyS.cons rfl ?_ ?_
      · skip
        simp [encNote, hc5]
        skip
        exact contS.mk (by simp [Weak, TW, T.plain, encNote]) h_1_3_6_8_13 (by kernel_rfl)
      refine anyS.cons rfl ?_ ?_
      · skip
        simp [encNote, hc5]
        skip
        exact contS.mk (by simp [Weak, TW, T.plain, encNote]) h_1_3_8_11_13 (by kernel_rfl)
      exact anyS.nil
    refine contS.cut 8 #[true, true, true, true, false, true, false, true, false, false, true, true, true, true, false, false, false, false] [(0, T.val (zt24x3 a)), (1, T.val (zt24x4 b)), (2, T.box (zt24x1 a)), (3, T.box (zt24x2 b)), (4, T.val (D.int IntKind.i64 (0 : Int))), (6, T.val (D.int IntKind.i64 a.patron)), (8, T.val (D.int IntKind.i64 b.patron)), (10, T.ptr 2 0), (12, T.ptr 3 0), (16, T.val (D.int IntKind.i64 a.item)), (18, T.val (D.int IntKind.i64 b.item))] ?_ fun h_1_3_11_13 => ?_
    · skip
      refine coreS.step E_ok [4, 6, 8] (by kernel_rfl) (by simp) ?_
      refine anyS.cons rfl ?_ ?_
      · skip
        simp [encNote, hc5]
        skip
        refine meet.of (cmp_Compare_int a.patron b.patron) ?_
        simp [encNote, hc5]
        skip
        exact contS.mk (by simp [Weak, TW, T.plain, encNote]) h_1_3_4_11_13 (by kernel_rfl)
      refine anyS.cons rfl ?_ ?_
      · skip
        simp [encNote, hc5]
        skip
        exact contS.mk (by simp [Weak, TW, T.plain, encNote]) h_1_3_6_11_13 (by kernel_rfl)
      refine anyS.cons rfl ?_ ?_
      · skip
        simp [encNote, hc5]
        skip
        exact contS.mk (by simp [Weak, TW, T.plain, encNote]) h_1_3_8_11_13 (by kernel_rfl)
      exact anyS.nil
    refine contS.cut 8 #[true, true, true, false, false, true, true, true, true, false, true, true, true, false, false, false, false, false] [(0, T.val (zt24x3 a)), (1, T.val (zt24x4 b)), (2, T.box (zt24x1 a)), (3, T.box (zt24x2 b)), (4, T.val (D.int IntKind.i64 (0 : Int))), (6, T.val (D.int IntKind.i64 a.patron)), (7, T.ptr 3 1), (11, T.val (D.int IntKind.i64 a.kind)), (13, T.val (D.int IntKind.i64 b.kind)), (16, T.val (D.int IntKind.i64 a.item)), (17, T.ptr 3 2)] ?_ fun h_1_6_8_11 => ?_
    · skip
      refine coreS.step E_ok [3, 13] (by kernel_rfl) (by simp) ?_
      refine anyS.cons rfl ?_ ?_
      · skip
        simp [encNote, hc5]
        skip
        exact contS.mk (by simp [Weak, TW, T.plain, encNote]) h_1_3_6_8_11 (by kernel_rfl)
      refine anyS.cons rfl ?_ ?_
      · skip
        simp [encNote, hc5]
        skip
        exact contS.mk (by simp [Weak, TW, T.plain, encNote]) h_1_6_8_11_13 (by kernel_rfl)
      exact anyS.nil
    refine contS.cut 8 #[true, true, true, false, false, true, true, true, true, false, true, false, true, true, false, false, false, false] [(0, T.val (zt24x3 a)), (1, T.val (zt24x4 b)), (2, T.box (zt24x1 a)), (3, T.box (zt24x2 b)), (4, T.val (D.int IntKind.i64 (0 : Int))), (6, T.val (D.int IntKind.i64 a.patron)), (7, T.ptr 3 1), (11, T.val (D.int IntKind.i64 a.kind)), (13, T.val (D.int IntKind.i64 b.kind)), (15, T.ptr 2 2), (18, T.val (D.int IntKind.i64 b.item))] ?_ fun h_1_6_8_13 => ?_
    · skip
      refine coreS.step E_ok [3, 11] (by kernel_rfl) (by simp) ?_
      refine anyS.cons rfl ?_ ?_
      · skip
        simp [encNote, hc5]
        skip
        exact contS.mk (by simp [Weak, TW, T.plain, encNote]) h_1_3_6_8_13 (by kernel_rfl)
      refine anyS.cons rfl ?_ ?_
      · skip
        simp [encNote, hc5]
        skip
        exact contS.mk (by simp [Weak, TW, T.plain, encNote]) h_1_6_8_11_13 (by kernel_rfl)
      exact anyS.nil
    refine contS.cut 8 #[true, true, true, false, false, true, true, true, false, false, true, true, true, true, false, false, false, false] [(0, T.val (zt24x3 a)), (1, T.val (zt24x4 b)), (2, T.box (zt24x1 a)), (3, T.box (zt24x2 b)), (4, T.val (D.int IntKind.i64 (0 : Int))), (6, T.val (D.int IntKind.i64 a.patron)), (7, T.ptr 3 1), (11, T.val (D.int IntKind.i64 a.kind)), (12, T.ptr 3 0), (16, T.val (D.int IntKind.i64 a.item)), (18, T.val (D.int IntKind.i64 b.item))] ?_ fun h_1_6_11_13 => ?_
    · skip
      refine coreS.step E_ok [3, 8] (by kernel_rfl) (by simp) ?_
      refine anyS.cons rfl ?_ ?_
      · skip
        simp [encNote, hc5]
        skip
        exact contS.mk (by simp [Weak, TW, T.plain, encNote]) h_1_3_6_11_13 (by kernel_rfl)
      refine anyS.cons rfl ?_ ?_
      · skip
        simp [encNote, hc5]
        skip
        exact contS.mk (by simp [Weak, TW, T.plain, encNote]) h_1_6_8_11_13 (by kernel_rfl)
      exact anyS.nil
    refine contS.cut 8 #[true, true, true, false, false, true, false, true, true, false, true, true, true, true, false, false, false, false] [(0, T.val (zt24x3 a)), (1, T.val (zt24x4 b)), (2, T.box (zt24x1 a)), (3, T.box (zt24x2 b)), (4, T.val (D.int IntKind.i64 (0 : Int))), (6, T.val (D.int IntKind.i64 a.patron)), (7, T.ptr 3 1), (10, T.ptr 2 0), (13, T.val (D.int IntKind.i64 b.kind)), (16, T.val (D.int IntKind.i64 a.item)), (18, T.val (D.int IntKind.i64 b.item))] ?_ fun h_1_8_11_13 => ?_
    · skip
      refine coreS.step E_ok [3, 6] (by kernel_rfl) (by simp) ?_
      refine anyS.cons rfl ?_ ?_
      · skip
        simp [encNote, hc5]
        skip
        exact contS.mk (by simp [Weak, TW, T.plain, encNote]) h_1_3_8_11_13 (by kernel_rfl)
      refine anyS.cons rfl ?_ ?_
      · skip
        simp [encNote, hc5]
        skip
        exact contS.mk (by simp [Weak, TW, T.plain, encNote]) h_1_6_8_11_13 (by kernel_rfl)
      exact anyS.nil
    refine contS.cut 8 #[true, false, true, true, false, true, true, true, true, false, true, true, true, false, false, false, false, false] [(0, T.val (zt24x3 a)), (1, T.val (zt24x4 b)), (2, T.box (zt24x1 a)), (3, T.box (zt24x2 b)), (4, T.val (D.int IntKind.i64 (0 : Int))), (5, T.ptr 2 1), (8, T.val (D.int IntKind.i64 b.patron)), (11, T.val (D.int IntKind.i64 a.kind)), (13, T.val (D.int IntKind.i64 b.kind)), (16, T.val (D.int IntKind.i64 a.item)), (17, T.ptr 3 2)] ?_ fun h_3_6_8_11 => ?_
    · skip
      refine coreS.step E_ok [1, 13] (by kernel_rfl) (by simp) ?_
      refine anyS.cons rfl ?_ ?_
      · skip
        simp [encNote, hc5]
        skip
        exact contS.mk (by simp [Weak, TW, T.plain, encNote]) h_1_3_6_8_11 (by kernel_rfl)
      refine anyS.cons rfl ?_ ?_
      · skip
        simp [encNote, hc5]
        skip
        exact contS.mk (by simp [Weak, TW, T.plain, encNote]) h_3_6_8_11_13 (by kernel_rfl)
      exact anyS.nil
    refine contS.cut 8 #[true, false, true, true, false, true, true, true, true, false, true, false, true, true, false, false, false, false] [(0, T.val (zt24x3 a)), (1, T.val (zt24x4 b)), (2, T.box (zt24x1 a)), (3, T.box (zt24x2 b)), (4, T.val (D.int IntKind.i64 (0 : Int))), (5, T.ptr 2 1), (8, T.val (D.int IntKind.i64 b.patron)), (11, T.val (D.int IntKind.i64 a.kind)), (13, T.val (D.int IntKind.i64 b.kind)), (15, T.ptr 2 2), (18, T.val (D.int IntKind.i64 b.item))] ?_ fun h_3_6_8_13 => ?_
    · skip
      refine coreS.step E_ok [1, 11] (by kernel_rfl) (by simp) ?_
      refine anyS.cons rfl ?_ ?_
      · skip
        simp [encNote, hc5]
        skip
        exact contS.mk (by simp [Weak, TW, T.plain, encNote]) h_1_3_6_8_13 (by kernel_rfl)
      refine anyS.cons rfl ?_ ?_
      · skip
        simp [encNote, hc5]
        skip
        exact contS.mk (by simp [Weak, TW, T.plain, encNote]) h_3_6_8_11_13 (by kernel_rfl)
      exact anyS.nil
    refine contS.cut 8 #[true, false, true, true, false, true, true, true, false, false, true, true, true, true, false, false, false, false] [(0, T.val (zt24x3 a)), (1, T.val (zt24x4 b)), (2, T.box (zt24x1 a)), (3, T.box (zt24x2 b)), (4, T.val (D.int IntKind.i64 (0 : Int))), (5, T.ptr 2 1), (8, T.val (D.int IntKind.i64 b.patron)), (11, T.val (D.int IntKind.i64 a.kind)), (12, T.ptr 3 0), (16, T.val (D.int IntKind.i64 a.item)), (18, T.val (D.int IntKind.i64 b.item))] ?_ fun h_3_6_11_13 => ?_
    · skip
      refine coreS.step E_ok [1, 8] (by kernel_rfl) (by simp) ?_
      refine anyS.cons rfl ?_ ?_
      · skip
        simp [encNote, hc5]
        skip
        exact contS.mk (by simp [Weak, TW, T.plain, encNote]) h_1_3_6_11_13 (by kernel_rfl)
      refine anyS.cons rfl ?_ ?_
      · skip
        simp [encNote, hc5]
        skip
        exact contS.mk (by simp [Weak, TW, T.plain, encNote]) h_3_6_8_11_13 (by kernel_rfl)
      exact anyS.nil
    refine contS.cut 8 #[true, false, true, true, false, true, false, true, true, false, true, true, true, true, false, false, false, false] [(0, T.val (zt24x3 a)), (1, T.val (zt24x4 b)), (2, T.box (zt24x1 a)), (3, T.box (zt24x2 b)), (4, T.val (D.int IntKind.i64 (0 : Int))), (5, T.ptr 2 1), (8, T.val (D.int IntKind.i64 b.patron)), (10, T.ptr 2 0), (13, T.val (D.int IntKind.i64 b.kind)), (16, T.val (D.int IntKind.i64 a.item)), (18, T.val (D.int IntKind.i64 b.item))] ?_ fun h_3_8_11_13 => ?_
    · skip
      refine coreS.step E_ok [1, 6] (by kernel_rfl) (by simp) ?_
      refine anyS.cons rfl ?_ ?_
      · skip
        simp [encNote, hc5]
        skip
        exact contS.mk (by simp [Weak, TW, T.plain, encNote]) h_1_3_8_11_13 (by kernel_rfl)
      refine anyS.cons rfl ?_ ?_
      · skip
        simp [encNote, hc5]
        skip
        exact contS.mk (by simp [Weak, TW, T.plain, encNote]) h_3_6_8_11_13 (by kernel_rfl)
      exact anyS.nil
    refine contS.cut 8 #[true, false, true, false, false, true, true, true, true, false, true, true, true, true, false, false, false, false] [(0, T.val (zt24x3 a)), (1, T.val (zt24x4 b)), (2, T.box (zt24x1 a)), (3, T.box (zt24x2 b)), (4, T.val (D.int IntKind.i64 (0 : Int))), (5, T.ptr 2 1), (7, T.ptr 3 1), (11, T.val (D.int IntKind.i64 a.kind)), (13, T.val (D.int IntKind.i64 b.kind)), (16, T.val (D.int IntKind.i64 a.item)), (18, T.val (D.int IntKind.i64 b.item))] ?_ fun h_6_8_11_13 => ?_
    · skip
      refine coreS.step E_ok [1, 3] (by kernel_rfl) (by simp) ?_
      refine anyS.cons rfl ?_ ?_
      · skip
        simp [encNote, hc5]
        skip
        exact contS.mk (by simp [Weak, TW, T.plain, encNote]) h_1_6_8_11_13 (by kernel_rfl)
      refine anyS.cons rfl ?_ ?_
      · skip
        simp [encNote, hc5]
        skip
        exact contS.mk (by simp [Weak, TW, T.plain, encNote]) h_3_6_8_11_13 (by kernel_rfl)
      exact anyS.nil
    refine contS.cut 9 #[true, true, true, true, true, true, false, true, false, false, true, false, true, false, false, false, false, false] [(0, T.val (zt24x3 a)), (1, T.val (zt24x4 b)), (2, T.box (zt24x1 a)), (3, T.box (zt24x2 b)), (4, T.val (D.int IntKind.i64 (0 : Int))), (9, T.val (D.int IntKind.i64 (cmpI a.patron b.patron))), (10, T.ptr 2 0), (12, T.ptr 3 0), (15, T.ptr 2 2), (17, T.ptr 3 2)] ?_ fun h_1_3_4 => ?_
    · skip
      refine coreS.step E_ok [6, 8, 11, 13] (by kernel_rfl) (by simp) ?_
      refine anyS.cons rfl ?_ ?_
      · skip
        simp [encNote, hc5]
        skip
        exact contS.mk (by simp [Weak, TW, T.plain, encNote]) h_1_3_4_6 (by kernel_rfl)
      refine anyS.cons rfl ?_ ?_
      · skip
        simp [encNote, hc5]
        skip
        exact contS.mk (by simp [Weak, TW, T.plain, encNote]) h_1_3_4_8 (by kernel_rfl)
      refine anyS.cons rfl ?_ ?_
      · skip
        simp [encNote, hc5]
        skip
        exact contS.mk (by simp [Weak, TW, T.plain, encNote]) h_1_3_4_11 (by kernel_rfl)
      refine anyS.cons rfl ?_ ?_
      · skip
        simp [encNote, hc5]
        skip
        exact contS.mk (by simp [Weak, TW, T.plain, encNote]) h_1_3_4_13 (by kernel_rfl)
      exact anyS.nil
    refine contS.cut 9 #[true, true, true, true, false, true, true, true, false, false, true, false, true, false, false, false, false, false] [(0, T.val (zt24x3 a)), (1, T.val (zt24x4 b)), (2, T.box (zt24x1 a)), (3, T.box (zt24x2 b)), (4, T.val (D.int IntKind.i64 (0 : Int))), (6, T.val (D.int IntKind.i64 a.patron)), (8, T.val (D.int IntKind.i64 b.patron)), (11, T.val (D.int IntKind.i64 a.kind)), (12, T.ptr 3 0), (15, T.ptr 2 2), (17, T.ptr 3 2)] ?_ fun h_1_3_6 => ?_
    · skip
      refine coreS.step E_ok [4, 8, 11, 13] (by kernel_rfl) (by simp) ?_
      refine anyS.cons rfl ?_ ?_
      · skip
        simp [encNote, hc5]
        skip
        refine meet.of (cmp_Compare_int a.patron b.patron) ?_
        simp [encNote, hc5]
        skip
        exact contS.mk (by simp [Weak, TW, T.plain, encNote]) h_1_3_4_6 (by kernel_rfl)
      refine anyS.cons rfl ?_ ?_
      · skip
        simp [encNote, hc5]
        skip
        exact contS.mk (by simp [Weak, TW, T.plain, encNote]) h_1_3_6_8 (by kernel_rfl)
      refine anyS.cons rfl ?_ ?_
      · skip
        simp [encNote, hc5]
        skip
        exact contS.mk (by simp [Weak, TW, T.plain, encNote]) h_1_3_6_11 (by kernel_rfl)
      refine anyS.cons rfl ?_ ?_
      · skip
        simp [encNote, hc5]
        skip
        exact contS.mk (by simp [Weak, TW, T.plain, encNote]) h_1_3_6_13 (by kernel_rfl)
      exact anyS.nil
    refine contS.cut 9 #[true, true, true, true, false, true, false, true, true, false, true, false, true, false, false, false, false, false] [(0, T.val (zt24x3 a)), (1, T.val (zt24x4 b)), (2, T.box (zt24x1 a)), (3, T.box (zt24x2 b)), (4, T.val (D.int IntKind.i64 (0 : Int))), (6, T.val (D.int IntKind.i64 a.patron)), (8, T.val (D.int IntKind.i64 b.patron)), (10, T.ptr 2 0), (13, T.val (D.int IntKind.i64 b.kind)), (15, T.ptr 2 2), (17, T.ptr 3 2)] ?_ fun h_1_3_8 => ?_
    · skip
      refine coreS.step E_ok [4, 6, 11, 13] (by kernel_rfl) (by simp) ?_
      refine anyS.cons rfl ?_ ?_
      · skip
        simp [encNote, hc5]
        skip
        refine meet.of (cmp_Compare_int a.patron b.patron) ?_
        simp [encNote, hc5]
        skip
        exact contS.mk (by simp [Weak, TW, T.plain, encNote]) h_1_3_4_8 (by kernel_rfl)
      refine anyS.cons rfl ?_ ?_
      · skip
        simp [encNote, hc5]
        skip
        exact contS.mk (by simp [Weak, TW, T.plain, encNote]) h_1_3_6_8 (by kernel_rfl)
      refine anyS.cons rfl ?_ ?_
      · skip
        simp [encNote, hc5]
        skip
        exact contS.mk (by simp [Weak, TW, T.plain, encNote]) h_1_3_8_11 (by kernel_rfl)
      refine anyS.cons rfl ?_ ?_
      · skip
        simp [encNote, hc5]
        skip
        exact contS.mk (by simp [Weak, TW, T.plain, encNote]) h_1_3_8_13 (by kernel_rfl)
      exact anyS.nil
    refine contS.cut 9 #[true, true, true, true, false, true, false, true, false, false, true, true, true, false, false, false, false, false] [(0, T.val (zt24x3 a)), (1, T.val (zt24x4 b)), (2, T.box (zt24x1 a)), (3, T.box (zt24x2 b)), (4, T.val (D.int IntKind.i64 (0 : Int))), (6, T.val (D.int IntKind.i64 a.patron)), (8, T.val (D.int IntKind.i64 b.patron)), (10, T.ptr 2 0), (12, T.ptr 3 0), (16, T.val (D.int IntKind.i64 a.item)), (17, T.ptr 3 2)] ?_ fun h_1_3_11 => ?_
    · skip
      refine coreS.step E_ok [4, 6, 8, 13] (by kernel_rfl) (by simp) ?_
      refine anyS.cons rfl ?_ ?_
      · skip
        simp [encNote, hc5]
        skip
        refine meet.of (cmp_Compare_int a.patron b.patron) ?_
        simp [encNote, hc5]
        skip
        exact contS.mk (by simp [Weak, TW, T.plain, encNote]) h_1_3_4_11 (by kernel_rfl)
      refine anyS.cons rfl ?_ ?_
      · skip
        simp [encNote, hc5]
        skip
        exact contS.mk (by simp [Weak, TW, T.plain, encNote]) h_1_3_6_11 (by kernel_rfl)
      refine anyS.cons rfl ?_ ?_
      · skip
        simp [encNote, hc5]
        skip
        exact contS.mk (by simp [Weak, TW, T.plain, encNote]) h_1_3_8_11 (by kernel_rfl)
      refine anyS.cons rfl ?_ ?_
      · skip
        simp [encNote, hc5]
        skip
        exact contS.mk (by simp [Weak, TW, T.plain, encNote]) h_1_3_11_13 (by kernel_rfl)
      exact anyS.nil
    refine contS.cut 9 #[true, true, true, true, false, true, false, true, false, false, true, false, true, true, false, false, false, false] [(0, T.val (zt24x3 a)), (1, T.val (zt24x4 b)), (2, T.box (zt24x1 a)), (3, T.box (zt24x2 b)), (4, T.val (D.int IntKind.i64 (0 : Int))), (6, T.val (D.int IntKind.i64 a.patron)), (8, T.val (D.int IntKind.i64 b.patron)), (10, T.ptr 2 0), (12, T.ptr 3 0), (15, T.ptr 2 2), (18, T.val (D.int IntKind.i64 b.item))] ?_ fun h_1_3_13 => ?_
    · skip
      refine coreS.step E_ok [4, 6, 8, 11] (by kernel_rfl) (by simp) ?_
      refine anyS.cons rfl ?_ ?_
      · skip
        simp [encNote, hc5]
        skip
        refine meet.of (cmp_Compare_int a.patron b.patron) ?_
        simp [encNote, hc5]
        skip
        exact contS.mk (by simp [Weak, TW, T.plain, encNote]) h_1_3_4_13 (by kernel_rfl)
      refine anyS.cons rfl ?_ ?_
      · skip
        simp [encNote, hc5]
        skip
        exact contS.mk (by simp [Weak, TW, T.plain, encNote]) h_1_3_6_13 (by kernel_rfl)
      refine anyS.cons rfl ?_ ?_
      · skip
        simp [encNote, hc5]
        skip
        exact contS.mk (by simp [Weak, TW, T.plain, encNote]) h_1_3_8_13 (by kernel_rfl)
      refine anyS.cons rfl ?_ ?_
      · skip
        simp [encNote, hc5]
        skip
        exact contS.mk (by simp [Weak, TW, T.plain, encNote]) h_1_3_11_13 (by kernel_rfl)
      exact anyS.nil
    refine contS.cut 9 #[true, true, true, false, false, true, true, true, true, false, true, false, true, false, false, false, false, false] [(0, T.val (zt24x3 a)), (1, T.val (zt24x4 b)), (2, T.box (zt24x1 a)), (3, T.box (zt24x2 b)), (4, T.val (D.int IntKind.i64 (0 : Int))), (6, T.val (D.int IntKind.i64 a.patron)), (7, T.ptr 3 1), (11, T.val (D.int IntKind.i64 a.kind)), (13, T.val (D.int IntKind.i64 b.kind)), (15, T.ptr 2 2), (17, T.ptr 3 2)] ?_ fun h_1_6_8 => ?_
    · skip
      refine coreS.step E_ok [3, 11, 13] (by kernel_rfl) (by simp) ?_
      refine anyS.cons rfl ?_ ?_
      · skip
        simp [encNote, hc5]
        skip
        exact contS.mk (by simp [Weak, TW, T.plain, encNote]) h_1_3_6_8 (by kernel_rfl)
      refine anyS.cons rfl ?_ ?_
      · skip
        simp [encNote, hc5]
        skip
        exact contS.mk (by simp [Weak, TW, T.plain, encNote]) h_1_6_8_11 (by kernel_rfl)
      refine anyS.cons rfl ?_ ?_
      · skip
        simp [encNote, hc5]
        skip
        exact contS.mk (by simp [Weak, TW, T.plain, encNote]) h_1_6_8_13 (by kernel_rfl)
      exact anyS.nil
    refine contS.cut 9 #[true, true, true, false, false, true, true, true, false, false, true, true, true, false, false, false, false, false] [(0, T.val (zt24x3 a)), (1, T.val (zt24x4 b)), (2, T.box (zt24x1 a)), (3, T.box (zt24x2 b)), (4, T.val (D.int IntKind.i64 (0 : Int))), (6, T.val (D.int IntKind.i64 a.patron)), (7, T.ptr 3 1), (11, T.val (D.int IntKind.i64 a.kind)), (12, T.ptr 3 0), (16, T.val (D.int IntKind.i64 a.item)), (17, T.ptr 3 2)] ?_ fun h_1_6_11 => ?_
    · skip
      refine coreS.step E_ok [3, 8, 13] (by kernel_rfl) (by simp) ?_
      refine anyS.cons rfl ?_ ?_
      · skip
        simp [encNote, hc5]
        skip
        exact contS.mk (by simp [Weak, TW, T.plain, encNote]) h_1_3_6_11 (by kernel_rfl)
      refine anyS.cons rfl ?_ ?_
      · skip
        simp [encNote, hc5]
        skip
        exact contS.mk (by simp [Weak, TW, T.plain, encNote]) h_1_6_8_11 (by kernel_rfl)
      refine anyS.cons rfl ?_ ?_
      · skip
        simp [encNote, hc5]
        skip
        exact contS.mk (by simp [Weak, TW, T.plain, encNote]) h_1_6_11_13 (by kernel_rfl)
      exact anyS.nil
    refine contS.cut 9 #[true, true, true, false, false, true, true, true, false, false, true, false, true, true, false, false, false, false] [(0, T.val (zt24x3 a)), (1, T.val (zt24x4 b)), (2, T.box (zt24x1 a)), (3, T.box (zt24x2 b)), (4, T.val (D.int IntKind.i64 (0 : Int))), (6, T.val (D.int IntKind.i64 a.patron)), (7, T.ptr 3 1), (11, T.val (D.int IntKind.i64 a.kind)), (12, T.ptr 3 0), (15, T.ptr 2 2), (18, T.val (D.int IntKind.i64 b.item))] ?_ fun h_1_6_13 => ?_
    · skip
      refine coreS.step E_ok [3, 8, 11] (by kernel_rfl) (by simp) ?_
      refine anyS.cons rfl ?_ ?_
      · skip
        simp [encNote, hc5]
        skip
        exact contS.mk (by simp [Weak, TW, T.plain, encNote]) h_1_3_6_13 (by kernel_rfl)
      refine anyS.cons rfl ?_ ?_
      · skip
        simp [encNote, hc5]
        skip
        exact contS.mk (by simp [Weak, TW, T.plain, encNote]) h_1_6_8_13 (by kernel_rfl)
      refine anyS.cons rfl ?_ ?_
      · skip
        simp [encNote, hc5]
        skip
        exact contS.mk (by simp [Weak, TW, T.plain, encNote]) h_1_6_11_13 (by kernel_rfl)
      exact anyS.nil
    refine contS.cut 9 #[true, true, true, false, false, true, false, true, true, false, true, true, true, false, false, false, false, false] [(0, T.val (zt24x3 a)), (1, T.val (zt24x4 b)), (2, T.box (zt24x1 a)), (3, T.box (zt24x2 b)), (4, T.val (D.int IntKind.i64 (0 : Int))), (6, T.val (D.int IntKind.i64 a.patron)), (7, T.ptr 3 1), (10, T.ptr 2 0), (13, T.val (D.int IntKind.i64 b.kind)), (16, T.val (D.int IntKind.i64 a.item)), (17, T.ptr 3 2)] ?_ fun h_1_8_11 => ?_
    · skip
      refine coreS.step E_ok [3, 6, 13] (by kernel_rfl) (by simp) ?_
      refine anyS.cons rfl ?_ ?_
      · skip
        simp [encNote, hc5]
        skip
        exact contS.mk (by simp [Weak, TW, T.plain, encNote]) h_1_3_8_11 (by kernel_rfl)
      refine anyS.cons rfl ?_ ?_
      · skip
        simp [encNote, hc5]
        skip
        exact contS.mk (by simp [Weak, TW, T.plain, encNote]) h_1_6_8_11 (by kernel_rfl)
      refine anyS.cons rfl ?_ ?_
      · skip
        simp [encNote, hc5]
        skip
        exact contS.mk (by simp [Weak, TW, T.plain, encNote]) h_1_8_11_13 (by kernel_rfl)
      exact anyS.nil
    refine contS.cut 9 #[true, true, true, false, false, true, false, true, true, false, true, false, true, true, false, false, false, false] [(0, T.val (zt24x3 a)), (1, T.val (zt24x4 b)), (2, T.box (zt24x1 a)), (3, T.box (zt24x2 b)), (4, T.val (D.int IntKind.i64 (0 : Int))), (6, T.val (D.int IntKind.i64 a.patron)), (7, T.ptr 3 1), (10, T.ptr 2 0), (13, T.val (D.int IntKind.i64 b.kind)), (15, T.ptr 2 2), (18, T.val (D.int IntKind.i64 b.item))] ?_ fun h_1_8_13 => ?_
    · skip
      refine coreS.step E_ok [3, 6, 11] (by kernel_rfl) (by simp) ?_
      refine anyS.cons rfl ?_ ?_
      · skip
        simp [encNote, hc5]
        skip
        exact contS.mk (by simp [Weak, TW, T.plain, encNote]) h_1_3_8_13 (by kernel_rfl)
      refine anyS.cons rfl ?_ ?_
      · skip
        simp [encNote, hc5]
        skip
        exact contS.mk (by simp [Weak, TW, T.plain, encNote]) h_1_6_8_13 (by kernel_rfl)
      refine anyS.cons rfl ?_ ?_
      · skip
        simp [encNote, hc5]
        skip
        exact contS.mk (by simp [Weak, TW, T.plain, encNote]) h_1_8_11_13 (by kernel_rfl)
      exact anyS.nil
    refine contS.cut 9 #[true, true, true, false, false, true, false, true, false, false, true, true, true, true, false, false, false, false] [(0, T.val (zt24x3 a)), (1, T.val (zt24x4 b)), (2, T.box (zt24x1 a)), (3, T.box (zt24x2 b)), (4, T.val (D.int IntKind.i64 (0 : Int))), (6, T.val (D.int IntKind.i64 a.patron)), (7, T.ptr 3 1), (10, T.ptr 2 0), (12, T.ptr 3 0), (16, T.val (D.int IntKind.i64 a.item)), (18, T.val (D.int IntKind.i64 b.item))] ?_ fun h_1_11_13 => ?_
    · skip
      refine coreS.step E_ok [3, 6, 8] (by kernel_rfl) (by simp) ?_
      refine anyS.cons rfl ?_ ?_
      · skip
        simp [encNote, hc5]
        skip
        exact contS.mk (by simp [Weak, TW, T.plain, encNote]) h_1_3_11_13 (by kernel_rfl)
      refine anyS.cons rfl ?_ ?_
      · skip
        simp [encNote, hc5]
        skip
        exact contS.mk (by simp [Weak, TW, T.plain, encNote]) h_1_6_11_13 (by kernel_rfl)
      refine anyS.cons rfl ?_ ?_
      · skip
        simp [encNote, hc5]
        skip
        exact contS.mk (by simp [Weak, TW, T.plain, encNote]) h_1_8_11_13 (by kernel_rfl)
      exact anyS.nil
    refine contS.cut 9 #[true, false, true, true, false, true, true, true, true, false, true, false, true, false, false, false, false, false] [(0, T.val (zt24x3 a)), (1, T.val (zt24x4 b)), (2, T.box (zt24x1 a)), (3, T.box (zt24x2 b)), (4, T.val (D.int IntKind.i64 (0 : Int))), (5, T.ptr 2 1), (8, T.val (D.int IntKind.i64 b.patron)), (11, T.val (D.int IntKind.i64 a.kind)), (13, T.val (D.int IntKind.i64 b.kind)), (15, T.ptr 2 2), (17, T.ptr 3 2)] ?_ fun h_3_6_8 => ?_
    · skip
      refine coreS.step E_ok [1, 11, 13] (by kernel_rfl) (by simp) ?_
      refine anyS.cons rfl ?_ ?_
      · skip
        simp [encNote, hc5]
        skip
        exact contS.mk (by simp [Weak, TW, T.plain, encNote]) h_1_3_6_8 (by kernel_rfl)
      refine anyS.cons rfl ?_ ?_
      · skip
        simp [encNote, hc5]
        skip
        exact contS.mk (by simp [Weak, TW, T.plain, encNote]) h_3_6_8_11 (by kernel_rfl)
      refine anyS.cons rfl ?_ ?_
      · skip
        simp [encNote, hc5]
        skip
        exact contS.mk (by simp [Weak, TW, T.plain, encNote]) h_3_6_8_13 (by kernel_rfl)
      exact anyS.nil
    refine contS.cut 9 #[true, false, true, true, false, true, true, true, false, false, true, true, true, false, false, false, false, false] [(0, T.val (zt24x3 a)), (1, T.val (zt24x4 b)), (2, T.box (zt24x1 a)), (3, T.box (zt24x2 b)), (4, T.val (D.int IntKind.i64 (0 : Int))), (5, T.ptr 2 1), (8, T.val (D.int IntKind.i64 b.patron)), (11, T.val (D.int IntKind.i64 a.kind)), (12, T.ptr 3 0), (16, T.val (D.int IntKind.i64 a.item)), (17, T.ptr 3 2)] ?_ fun h_3_6_11 => ?_
    · skip
      refine coreS.step E_ok [1, 8, 13] (by kernel_rfl) (by simp) ?_
      refine anyS.cons rfl ?_ ?_
      · skip
        simp [encNote, hc5]
        skip
        exact contS.mk (by simp [Weak, TW, T.plain, encNote]) h_1_3_6_11 (by kernel_rfl)
      refine anyS.cons rfl ?_ ?_
      · skip
        simp [encNote, hc5]
        skip
        exact contS.mk (by simp [Weak, TW, T.plain, encNote]) h_3_6_8_11 (by kernel_rfl)
      refine anyS.cons rfl ?_ ?_
      · skip
        simp [encNote, hc5]
        skip
        exact contS.mk (by simp [Weak, TW, T.plain, encNote]) h_3_6_11_13 (by kernel_rfl)
      exact anyS.nil
    refine contS.cut 9 #[true, false, true, true, false, true, true, true, false, false, true, false, true, true, false, false, false, false] [(0, T.val (zt24x3 a)), (1, T.val (zt24x4 b)), (2, T.box (zt24x1 a)), (3, T.box (zt24x2 b)), (4, T.val (D.int IntKind.i64 (0 : Int))), (5, T.ptr 2 1), (8, T.val (D.int IntKind.i64 b.patron)), (11, T.val (D.int IntKind.i64 a.kind)), (12, T.ptr 3 0), (15, T.ptr 2 2), (18, T.val (D.int IntKind.i64 b.item))] ?_ fun h_3_6_13 => ?_
    · skip
      refine coreS.step E_ok [1, 8, 11] (by kernel_rfl) (by simp) ?_
      refine anyS.cons rfl ?_ ?_
      · skip
        simp [encNote, hc5]
        skip
        exact contS.mk (by simp [Weak, TW, T.plain, encNote]) h_1_3_6_13 (by kernel_rfl)
      refine anyS.cons rfl ?_ ?_
      · skip
        simp [encNote, hc5]
        skip
        exact contS.mk (by simp [Weak, TW, T.plain, encNote]) h_3_6_8_13 (by kernel_rfl)
      refine anyS.cons rfl ?_ ?_
      · skip
        simp [encNote, hc5]
        skip
        exact contS.mk (by simp [Weak, TW, T.plain, encNote]) h_3_6_11_13 (by kernel_rfl)
      exact anyS.nil
    refine contS.cut 9 #[true, false, true, true, false, true, false, true, true, false, true, true, true, false, false, false, false, false] [(0, T.val (zt24x3 a)), (1, T.val (zt24x4 b)), (2, T.box (zt24x1 a)), (3, T.box (zt24x2 b)), (4, T.val (D.int IntKind.i64 (0 : Int))), (5, T.ptr 2 1), (8, T.val (D.int IntKind.i64 b.patron)), (10, T.ptr 2 0), (13, T.val (D.int IntKind.i64 b.kind)), (16, T.val (D.int IntKind.i64 a.item)), (17, T.ptr 3 2)] ?_ fun h_3_8_11 => ?_
    · skip
      refine coreS.step E_ok [1, 6, 13] (by kernel_rfl) (by simp) ?_
      refine anyS.cons rfl ?_ ?_
      · skip
        simp [encNote, hc5]
        skip
        exact contS.mk (by simp [Weak, TW, T.plain, encNote]) h_1_3_8_11 (by kernel_rfl)
      refine anyS.cons rfl ?_ ?_
      · skip
        simp [encNote, hc5]
        skip
        exact contS.mk (by simp [Weak, TW, T.plain, encNote]) h_3_6_8_11 (by kernel_rfl)
      refine anyS.cons rfl ?_ ?_
      · skip
        simp [encNote, hc5]
        skip
        exact contS.mk (by simp [Weak, TW, T.plain, encNote]) h_3_8_11_13 (by kernel_rfl)
      exact anyS.nil
    refine contS.cut 9 #[true, false, true, true, false, true, false, true, true, false, true, false, true, true, false, false, false, false] [(0, T.val (zt24x3 a)), (1, T.val (zt24x4 b)), (2, T.box (zt24x1 a)), (3, T.box (zt24x2 b)), (4, T.val (D.int IntKind.i64 (0 : Int))), (5, T.ptr 2 1), (8, T.val (D.int IntKind.i64 b.patron)), (10, T.ptr 2 0), (13, T.val (D.int IntKind.i64 b.kind)), (15, T.ptr 2 2), (18, T.val (D.int IntKind.i64 b.item))] ?_ fun h_3_8_13 => ?_
    · skip
      refine coreS.step E_ok [1, 6, 11] (by kernel_rfl) (by simp) ?_
      refine anyS.cons rfl ?_ ?_
      · skip
        simp [encNote, hc5]
        skip
        exact contS.mk (by simp [Weak, TW, T.plain, encNote]) h_1_3_8_13 (by kernel_rfl)
      refine anyS.cons rfl ?_ ?_
      · skip
        simp [encNote, hc5]
        skip
        exact contS.mk (by simp [Weak, TW, T.plain, encNote]) h_3_6_8_13 (by kernel_rfl)
      refine anyS.cons rfl ?_ ?_
      · skip
        simp [encNote, hc5]
        skip
        exact contS.mk (by simp [Weak, TW, T.plain, encNote]) h_3_8_11_13 (by kernel_rfl)
      exact anyS.nil
    refine contS.cut 9 #[true, false, true, true, false, true, false, true, false, false, true, true, true, true, false, false, false, false] [(0, T.val (zt24x3 a)), (1, T.val (zt24x4 b)), (2, T.box (zt24x1 a)), (3, T.box (zt24x2 b)), (4, T.val (D.int IntKind.i64 (0 : Int))), (5, T.ptr 2 1), (8, T.val (D.int IntKind.i64 b.patron)), (10, T.ptr 2 0), (12, T.ptr 3 0), (16, T.val (D.int IntKind.i64 a.item)), (18, T.val (D.int IntKind.i64 b.item))] ?_ fun h_3_11_13 => ?_
    · skip
      refine coreS.step E_ok [1, 6, 8] (by kernel_rfl) (by simp) ?_
      refine anyS.cons rfl ?_ ?_
      · skip
        simp [encNote, hc5]
        skip
        exact contS.mk (by simp [Weak, TW, T.plain, encNote]) h_1_3_11_13 (by kernel_rfl)
      refine anyS.cons rfl ?_ ?_
      · skip
        simp [encNote, hc5]
        skip
        exact contS.mk (by simp [Weak, TW, T.plain, encNote]) h_3_6_11_13 (by kernel_rfl)
      refine anyS.cons rfl ?_ ?_
      · skip
        simp [encNote, hc5]
        skip
        exact contS.mk (by simp [Weak, TW, T.plain, encNote]) h_3_8_11_13 (by kernel_rfl)
      exact anyS.nil
    refine contS.cut 9 #[true, false, true, false, false, true, true, true, true, false, true, true, true, false, false, false, false, false] [(0, T.val (zt24x3 a)), (1, T.val (zt24x4 b)), (2, T.box (zt24x1 a)), (3, T.box (zt24x2 b)), (4, T.val (D.int IntKind.i64 (0 : Int))), (5, T.ptr 2 1), (7, T.ptr 3 1), (11, T.val (D.int IntKind.i64 a.kind)), (13, T.val (D.int IntKind.i64 b.kind)), (16, T.val (D.int IntKind.i64 a.item)), (17, T.ptr 3 2)] ?_ fun h_6_8_11 => ?_
    · skip
      refine coreS.step E_ok [1, 3, 13] (by kernel_rfl) (by simp) ?_
      refine anyS.cons rfl ?_ ?_
      · skip
        simp [encNote, hc5]
        skip
        exact contS.mk (by simp [Weak, TW, T.plain, encNote]) h_1_6_8_11 (by kernel_rfl)
      refine anyS.cons rfl ?_ ?_
      · skip
        simp [encNote, hc5]
        skip
        exact contS.mk (by simp [Weak, TW, T.plain, encNote]) h_3_6_8_11 (by kernel_rfl)
      refine anyS.cons rfl ?_ ?_
      · skip
        simp [encNote, hc5]
        skip
        exact contS.mk (by simp [Weak, TW, T.plain, encNote]) h_6_8_11_13 (by kernel_rfl)
      exact anyS.nil
    refine contS.cut 9 #[true, false, true, false, false, true, true, true, true, false, true, false, true, true, false, false, false, false] [(0, T.val (zt24x3 a)), (1, T.val (zt24x4 b)), (2, T.box (zt24x1 a)), (3, T.box (zt24x2 b)), (4, T.val (D.int IntKind.i64 (0 : Int))), (5, T.ptr 2 1), (7, T.ptr 3 1), (11, T.val (D.int IntKind.i64 a.kind)), (13, T.val (D.int IntKind.i64 b.kind)), (15, T.ptr 2 2), (18, T.val (D.int IntKind.i64 b.item))] ?_ fun h_6_8_13 => ?_
    · skip
      refine coreS.step E_ok [1, 3, 11] (by kernel_rfl) (by simp) ?_
      refine anyS.cons rfl ?_ ?_
      · skip
        simp [encNote, hc5]
        skip
        exact contS.mk (by simp [Weak, TW, T.plain, encNote]) h_1_6_8_13 (by kernel_rfl)
      refine anyS.cons rfl ?_ ?_
      · skip
        simp [encNote, hc5]
        skip
        exact contS.mk (by simp [Weak, TW, T.plain, encNote]) h_3_6_8_13 (by kernel_rfl)
      refine anyS.cons rfl ?_ ?_
      · skip
        simp [encNote, hc5]
        skip
        exact contS.mk (by simp [Weak, TW, T.plain, encNote]) h_6_8_11_13 (by kernel_rfl)
      exact anyS.nil
    refine contS.cut 9 #[true, false, true, false, false, true, true, true, false, false, true, true, true, true, false, false, false, false] [(0, T.val (zt24x3 a)), (1, T.val (zt24x4 b)), (2, T.box (zt24x1 a)), (3, T.box (zt24x2 b)), (4, T.val (D.int IntKind.i64 (0 : Int))), (5, T.ptr 2 1), (7, T.ptr 3 1), (11, T.val (D.int IntKind.i64 a.kind)), (12, T.ptr 3 0), (16, T.val (D.int IntKind.i64 a.item)), (18, T.val (D.int IntKind.i64 b.item))] ?_ fun h_6_11_13 => ?_
    · skip
      refine coreS.step E_ok [1, 3, 8] (by kernel_rfl) (by simp) ?_
      refine anyS.cons rfl ?_ ?_
      · skip
        simp [encNote, hc5]
        skip
        exact contS.mk (by simp [Weak, TW, T.plain, encNote]) h_1_6_11_13 (by kernel_rfl)
      refine anyS.cons rfl ?_ ?_
      · skip
        simp [encNote, hc5]
        skip
        exact contS.mk (by simp [Weak, TW, T.plain, encNote]) h_3_6_11_13 (by kernel_rfl)
      refine anyS.cons rfl ?_ ?_
      · skip
        simp [encNote, hc5]
        skip
        exact contS.mk (by simp [Weak, TW, T.plain, encNote]) h_6_8_11_13 (by kernel_rfl)
      exact anyS.nil
    refine contS.cut 9 #[true, false, true, false, false, true, false, true, true, false, true, true, true, true, false, false, false, false] [(0, T.val (zt24x3 a)), (1, T.val (zt24x4 b)), (2, T.box (zt24x1 a)), (3, T.box (zt24x2 b)), (4, T.val (D.int IntKind.i64 (0 : Int))), (5, T.ptr 2 1), (7, T.ptr 3 1), (10, T.ptr 2 0), (13, T.val (D.int IntKind.i64 b.kind)), (16, T.val (D.int IntKind.i64 a.item)), (18, T.val (D.int IntKind.i64 b.item))] ?_ fun h_8_11_13 => ?_
    · skip
      refine coreS.step E_ok [1, 3, 6] (by kernel_rfl) (by simp) ?_
      refine anyS.cons rfl ?_ ?_
      · skip
        simp [encNote, hc5]
        skip
        exact contS.mk (by simp [Weak, TW, T.plain, encNote]) h_1_8_11_13 (by kernel_rfl)
      refine anyS.cons rfl ?_ ?_
      · skip
        simp [encNote, hc5]
        skip
        exact contS.mk (by simp [Weak, TW, T.plain, encNote]) h_3_8_11_13 (by kernel_rfl)
      refine anyS.cons rfl ?_ ?_
      · skip
        simp [encNote, hc5]
        skip
        exact contS.mk (by simp [Weak, TW, T.plain, encNote]) h_6_8_11_13 (by kernel_rfl)
      exact anyS.nil
    refine contS.cut 10 #[true, true, true, true, false, true, false, true, false, false, true, false, true, false, false, false, false, false] [(0, T.val (zt24x3 a)), (1, T.val (zt24x4 b)), (2, T.box (zt24x1 a)), (3, T.box (zt24x2 b)), (4, T.val (D.int IntKind.i64 (0 : Int))), (6, T.val (D.int IntKind.i64 a.patron)), (8, T.val (D.int IntKind.i64 b.patron)), (10, T.ptr 2 0), (12, T.ptr 3 0), (15, T.ptr 2 2), (17, T.ptr 3 2)] ?_ fun h_1_3 => ?_
    · skip
      refine coreS.step E_ok [4, 6, 8, 11, 13] (by kernel_rfl) (by simp) ?_
      refine anyS.cons rfl ?_ ?_
      · skip
        simp [encNote, hc5]
        skip
        refine meet.of (cmp_Compare_int a.patron b.patron) ?_
        simp [encNote, hc5]
        skip
        exact contS.mk (by simp [Weak, TW, T.plain, encNote]) h_1_3_4 (by kernel_rfl)
      refine anyS.cons rfl ?_ ?_
      · skip
        simp [encNote, hc5]
        skip
        exact contS.mk (by simp [Weak, TW, T.plain, encNote]) h_1_3_6 (by kernel_rfl)
      refine anyS.cons rfl ?_ ?_
      · skip
        simp [encNote, hc5]
        skip
        exact contS.mk (by simp [Weak, TW, T.plain, encNote]) h_1_3_8 (by kernel_rfl)
      refine anyS.cons rfl ?_ ?_
      · skip
        simp [encNote, hc5]
        skip
        exact contS.mk (by simp [Weak, TW, T.plain, encNote]) h_1_3_11 (by kernel_rfl)
      refine anyS.cons rfl ?_ ?_
      · skip
        simp [encNote, hc5]
        skip
        exact contS.mk (by simp [Weak, TW, T.plain, encNote]) h_1_3_13 (by kernel_rfl)
      exact anyS.nil
    refine contS.cut 10 #[true, true, true, false, false, true, true, true, false, false, true, false, true, false, false, false, false, false] [(0, T.val (zt24x3 a)), (1, T.val (zt24x4 b)), (2, T.box (zt24x1 a)), (3, T.box (zt24x2 b)), (4, T.val (D.int IntKind.i64 (0 : Int))), (6, T.val (D.int IntKind.i64 a.patron)), (7, T.ptr 3 1), (11, T.val (D.int IntKind.i64 a.kind)), (12, T.ptr 3 0), (15, T.ptr 2 2), (17, T.ptr 3 2)] ?_ fun h_1_6 => ?_
    · skip
      refine coreS.step E_ok [3, 8, 11, 13] (by kernel_rfl) (by simp) ?_
      refine anyS.cons rfl ?_ ?_
      · skip
        simp [encNote, hc5]
        skip
        exact contS.mk (by simp [Weak, TW, T.plain, encNote]) h_1_3_6 (by kernel_rfl)
      refine anyS.cons rfl ?_ ?_
      · skip
        simp [encNote, hc5]
        skip
        exact contS.mk (by simp [Weak, TW, T.plain, encNote]) h_1_6_8 (by kernel_rfl)
      refine anyS.cons rfl ?_ ?_
      · skip
        simp [encNote, hc5]
        skip
        exact contS.mk (by simp [Weak, TW, T.plain, encNote]) h_1_6_11 (by kernel_rfl)
      refine anyS.cons rfl ?_ ?_
      · skip
        simp [encNote, hc5]
        skip
        exact contS.mk (by simp [Weak, TW, T.plain, encNote]) h_1_6_13 (by kernel_rfl)
      exact anyS.nil
    refine contS.cut 10 #[true, true, true, false, false, true, false, true, true, false, true, false, true, false, false, false, false, false] [(0, T.val (zt24x3 a)), (1, T.val (zt24x4 b)), (2, T.box (zt24x1 a)), (3, T.box (zt24x2 b)), (4, T.val (D.int IntKind.i64 (0 : Int))), (6, T.val (D.int IntKind.i64 a.patron)), (7, T.ptr 3 1), (10, T.ptr 2 0), (13, T.val (D.int IntKind.i64 b.kind)), (15, T.ptr 2 2), (17, T.ptr 3 2)] ?_ fun h_1_8 => ?_
    · skip
      refine coreS.step E_ok [3, 6, 11, 13] (by kernel_rfl) (by simp) ?_
      refine anyS.cons rfl ?_ ?_
      · skip
        simp [encNote, hc5]
        skip
        exact contS.mk (by simp [Weak, TW, T.plain, encNote]) h_1_3_8 (by kernel_rfl)
      refine anyS.cons rfl ?_ ?_
      · skip
        simp [encNote, hc5]
        skip
        exact contS.mk (by simp [Weak, TW, T.plain, encNote]) h_1_6_8 (by kernel_rfl)
      refine anyS.cons rfl ?_ ?_
      · skip
        simp [encNote, hc5]
        skip
        exact contS.mk (by simp [Weak, TW, T.plain, encNote]) h_1_8_11 (by kernel_rfl)
      refine anyS.cons rfl ?_ ?_
      · skip
        simp [encNote, hc5]
        skip
        exact contS.mk (by simp [Weak, TW, T.plain, encNote]) h_1_8_13 (by kernel_rfl)
      exact anyS.nil
    refine contS.cut 10 #[true, true, true, false, false, true, false, true, false, false, true, true, true, false, false, false, false, false] [(0, T.val (zt24x3 a)), (1, T.val (zt24x4 b)), (2, T.box (zt24x1 a)), (3, T.box (zt24x2 b)), (4, T.val (D.int IntKind.i64 (0 : Int))), (6, T.val (D.int IntKind.i64 a.patron)), (7, T.ptr 3 1), (10, T.ptr 2 0), (12, T.ptr 3 0), (16, T.val (D.int IntKind.i64 a.item)), (17, T.ptr 3 2)] ?_ fun h_1_11 => ?_
    · skip
      refine coreS.step E_ok [3, 6, 8, 13] (by kernel_rfl) (by simp) ?_
      refine anyS.cons rfl ?_ ?_
      · skip
        simp [encNote, hc5]
        skip
        exact contS.mk (by simp [Weak, TW, T.plain, encNote]) h_1_3_11 (by kernel_rfl)
      refine anyS.cons rfl ?_ ?_
      · skip
        simp [encNote, hc5]
        skip
        exact contS.mk (by simp [Weak, TW, T.plain, encNote]) h_1_6_11 (by kernel_rfl)
      refine anyS.cons rfl ?_ ?_
      · skip
        simp [encNote, hc5]
        skip
        exact contS.mk (by simp [Weak, TW, T.plain, encNote]) h_1_8_11 (by kernel_rfl)
      refine anyS.cons rfl ?_ ?_
      · skip
        simp [encNote, hc5]
        skip
        exact contS.mk (by simp [Weak, TW, T.plain, encNote]) h_1_11_13 (by kernel_rfl)
      exact anyS.nil
    refine contS.cut 10 #[true, true, true, false, false, true, false, true, false, false, true, false, true, true, false, false, false, false] [(0, T.val (zt24x3 a)), (1, T.val (zt24x4 b)), (2, T.box (zt24x1 a)), (3, T.box (zt24x2 b)), (4, T.val (D.int IntKind.i64 (0 : Int))), (6, T.val (D.int IntKind.i64 a.patron)), (7, T.ptr 3 1), (10, T.ptr 2 0), (12, T.ptr 3 0), (15, T.ptr 2 2), (18, T.val (D.int IntKind.i64 b.item))] ?_ fun h_1_13 => ?_
    · skip
      refine coreS.step E_ok [3, 6, 8, 11] (by kernel_rfl) (by simp) ?_
      refine anyS.cons rfl ?_ ?_
      · skip
        simp [encNote, hc5]
        skip
        exact contS.mk (by simp [Weak, TW, T.plain, encNote]) h_1_3_13 (by kernel_rfl)
      refine anyS.cons rfl ?_ ?_
      · skip
        simp [encNote, hc5]
        skip
        exact contS.mk (by simp [Weak, TW, T.plain, encNote]) h_1_6_13 (by kernel_rfl)
      refine anyS.cons rfl ?_ ?_
      · skip
        simp [encNote, hc5]
        skip
        exact contS.mk (by simp [Weak, TW, T.plain, encNote]) h_1_8_13 (by kernel_rfl)
      refine anyS.cons rfl ?_ ?_
      · skip
        simp [encNote, hc5]
        skip
        exact contS.mk (by simp [Weak, TW, T.plain, encNote]) h_1_11_13 (by kernel_rfl)
      exact anyS.nil
    refine contS.cut 10 #[true, false, true, true, false, true, true, true, false, false, true, false, true, false, false, false, false, false] [(0, T.val (zt24x3 a)), (1, T.val (zt24x4 b)), (2, T.box (zt24x1 a)), (3, T.box (zt24x2 b)), (4, T.val (D.int IntKind.i64 (0 : Int))), (5, T.ptr 2 1), (8, T.val (D.int IntKind.i64 b.patron)), (11, T.val (D.int IntKind.i64 a.kind)), (12, T.ptr 3 0), (15, T.ptr 2 2), (17, T.ptr 3 2)] ?_ fun h_3_6 => ?_
    · skip
      refine coreS.step E_ok [1, 8, 11, 13] (by kernel_rfl) (by simp) ?_
      refine anyS.cons rfl ?_ ?_
      · skip
        simp [encNote, hc5]
        skip
        exact contS.mk (by simp [Weak, TW, T.plain, encNote]) h_1_3_6 (by kernel_rfl)
      refine anyS.cons rfl ?_ ?_
      · skip
        simp [encNote, hc5]
        skip
        exact contS.mk (by simp [Weak, TW, T.plain, encNote]) h_3_6_8 (by kernel_rfl)
      refine anyS.cons rfl ?_ ?_
      · skip
        simp [encNote, hc5]
        skip
        exact contS.mk (by simp [Weak, TW, T.plain, encNote]) h_3_6_11 (by kernel_rfl)
      refine anyS.cons rfl ?_ ?_
      · skip
        simp [encNote, hc5]
        skip
        exact contS.mk (by simp [Weak, TW, T.plain, encNote]) h_3_6_13 (by kernel_rfl)
      exact anyS.nil
    refine contS.cut 10 #[true, false, true, true, false, true, false, true, true, false, true, false, true, false, false, false, false, false] [(0, T.val (zt24x3 a)), (1, T.val (zt24x4 b)), (2, T.box (zt24x1 a)), (3, T.box (zt24x2 b)), (4, T.val (D.int IntKind.i64 (0 : Int))), (5, T.ptr 2 1), (8, T.val (D.int IntKind.i64 b.patron)), (10, T.ptr 2 0), (13, T.val (D.int IntKind.i64 b.kind)), (15, T.ptr 2 2), (17, T.ptr 3 2)] ?_ fun h_3_8 => ?_
    · skip
      refine coreS.step E_ok [1, 6, 11, 13] (by kernel_rfl) (by simp) ?_
      refine anyS.cons rfl ?_ ?_
      · skip
        simp [encNote, hc5]
        skip
        exact contS.mk (by simp [Weak, TW, T.plain, encNote]) h_1_3_8 (by kernel_rfl)
      refine anyS.cons rfl ?_ ?_
      · skip
        simp [encNote, hc5]
        skip
        exact contS.mk (by simp [Weak, TW, T.plain, encNote]) h_3_6_8 (by kernel_rfl)
      refine anyS.cons rfl ?_ ?_
      · skip
        simp [encNote, hc5]
        skip
        exact contS.mk (by simp [Weak, TW, T.plain, encNote]) h_3_8_11 (by kernel_rfl)
      refine anyS.cons rfl ?_ ?_
      · skip
        simp [encNote, hc5]
        skip
        exact contS.mk (by simp [Weak, TW, T.plain, encNote]) h_3_8_13 (by kernel_rfl)
      exact anyS.nil
    refine contS.cut 10 #[true, false, true, true, false, true, false, true, false, false, true, true, true, false, false, false, false, false] [(0, T.val (zt24x3 a)), (1, T.val (zt24x4 b)), (2, T.box (zt24x1 a)), (3, T.box (zt24x2 b)), (4, T.val (D.int IntKind.i64 (0 : Int))), (5, T.ptr 2 1), (8, T.val (D.int IntKind.i64 b.patron)), (10, T.ptr 2 0), (12, T.ptr 3 0), (16, T.val (D.int IntKind.i64 a.item)), (17, T.ptr 3 2)] ?_ fun h_3_11 => ?_
    · skip
      refine coreS.step E_ok [1, 6, 8, 13] (by kernel_rfl) (by simp) ?_
      refine anyS.cons rfl ?_ ?_
      · skip
        simp [encNote, hc5]
        skip
        exact contS.mk (by simp [Weak, TW, T.plain, encNote]) h_1_3_11 (by kernel_rfl)
      refine anyS.cons rfl ?_ ?_
      · skip
        simp [encNote, hc5]
        skip
        exact contS.mk (by simp [Weak, TW, T.plain, encNote]) h_3_6_11 (by kernel_rfl)
      refine anyS.cons rfl ?_ ?_
      · skip
        simp [encNote, hc5]
        skip
        exact contS.mk (by simp [Weak, TW, T.plain, encNote]) h_3_8_11 (by kernel_rfl)
      refine anyS.cons rfl ?_ ?_
      · skip
        simp [encNote, hc5]
        skip
        exact contS.mk (by simp [Weak, TW, T.plain, encNote]) h_3_11_13 (by kernel_rfl)
      exact anyS.nil
    refine contS.cut 10 #[true, false, true, true, false, true, false, true, false, false, true, false, true, true, false, false, false, false] [(0, T.val (zt24x3 a)), (1, T.val (zt24x4 b)), (2, T.box (zt24x1 a)), (3, T.box (zt24x2 b)), (4, T.val (D.int IntKind.i64 (0 : Int))), (5, T.ptr 2 1), (8, T.val (D.int IntKind.i64 b.patron)), (10, T.ptr 2 0), (12, T.ptr 3 0), (15, T.ptr 2 2), (18, T.val (D.int IntKind.i64 b.item))] ?_ fun h_3_13 => ?_
    · skip
      refine coreS.step E_ok [1, 6, 8, 11] (by kernel_rfl) (by simp) ?_
      refine anyS.cons rfl ?_ ?_
      · skip
        simp [encNote, hc5]
        skip
        exact contS.mk (by simp [Weak, TW, T.plain, encNote]) h_1_3_13 (by kernel_rfl)
      refine anyS.cons rfl ?_ ?_
      · skip
        simp [encNote, hc5]
        skip
        exact contS.mk (by simp [Weak, TW, T.plain, encNote]) h_3_6_13 (by kernel_rfl)
      refine anyS.cons rfl ?_ ?_
      · skip
        simp [encNote, hc5]
        skip
        exact contS.mk (by simp [Weak, TW, T.plain, encNote]) h_3_8_13 (by kernel_rfl)
      refine anyS.cons rfl ?_ ?_
      · skip
        simp [encNote, hc5]
        skip
        exact contS.mk (by simp [Weak, TW, T.plain, encNote]) h_3_11_13 (by kernel_rfl)
      exact anyS.nil
    refine contS.cut 10 #[true, false, true, false, false, true, true, true, true, false, true, false, true, false, false, false, false, false] [(0, T.val (zt24x3 a)), (1, T.val (zt24x4 b)), (2, T.box (zt24x1 a)), (3, T.box (zt24x2 b)), (4, T.val (D.int IntKind.i64 (0 : Int))), (5, T.ptr 2 1), (7, T.ptr 3 1), (11, T.val (D.int IntKind.i64 a.kind)), (13, T.val (D.int IntKind.i64 b.kind)), (15, T.ptr 2 2), (17, T.ptr 3 2)] ?_ fun h_6_8 => ?_
    · skip
      refine coreS.step E_ok [1, 3, 11, 13] (by kernel_rfl) (by simp) ?_
      refine anyS.cons rfl ?_ ?_
      · skip
        simp [encNote, hc5]
        skip
        exact contS.mk (by simp [Weak, TW, T.plain, encNote]) h_1_6_8 (by kernel_rfl)
      refine anyS.cons rfl ?_ ?_
      · skip
        simp [encNote, hc5]
        skip
        exact contS.mk (by simp [Weak, TW, T.plain, encNote]) h_3_6_8 (by kernel_rfl)
      refine anyS.cons rfl ?_ ?_
      · skip
        simp [encNote, hc5]
        skip
        exact contS.mk (by simp [Weak, TW, T.plain, encNote]) h_6_8_11 (by kernel_rfl)
      refine anyS.cons rfl ?_ ?_
      · skip
        simp [encNote, hc5]
        skip
        exact contS.mk (by simp [Weak, TW, T.plain, encNote]) h_6_8_13 (by kernel_rfl)
      exact anyS.nil
    refine contS.cut 10 #[true, false, true, false, false, true, true, true, false, false, true, true, true, false, false, false, false, false] [(0, T.val (zt24x3 a)), (1, T.val (zt24x4 b)), (2, T.box (zt24x1 a)), (3, T.box (zt24x2 b)), (4, T.val (D.int IntKind.i64 (0 : Int))), (5, T.ptr 2 1), (7, T.ptr 3 1), (11, T.val (D.int IntKind.i64 a.kind)), (12, T.ptr 3 0), (16, T.val (D.int IntKind.i64 a.item)), (17, T.ptr 3 2)] ?_ fun h_6_11 => ?_
    · skip
      refine coreS.step E_ok [1, 3, 8, 13] (by kernel_rfl) (by simp) ?_
      refine anyS.cons rfl ?_ ?_
      · skip
        simp [encNote, hc5]
        skip
        exact contS.mk (by simp [Weak, TW, T.plain, encNote]) h_1_6_11 (by kernel_rfl)
      refine anyS.cons rfl ?_ ?_
      · skip
        simp [encNote, hc5]
        skip
        exact contS.mk (by simp [Weak, TW, T.plain, encNote]) h_3_6_11 (by kernel_rfl)
      refine anyS.cons rfl ?_ ?_
      · skip
        simp [encNote, hc5]
        skip
        exact contS.mk (by simp [Weak, TW, T.plain, encNote]) h_6_8_11 (by kernel_rfl)
      refine anyS.cons rfl ?_ ?_
      · skip
        simp [encNote, hc5]
        skip
        exact contS.mk (by simp [Weak, TW, T.plain, encNote]) h_6_11_13 (by kernel_rfl)
      exact anyS.nil
    refine contS.cut 10 #[true, false, true, false, false, true, true, true, false, false, true, false, true, true, false, false, false, false] [(0, T.val (zt24x3 a)), (1, T.val (zt24x4 b)), (2, T.box (zt24x1 a)), (3, T.box (zt24x2 b)), (4, T.val (D.int IntKind.i64 (0 : Int))), (5, T.ptr 2 1), (7, T.ptr 3 1), (11, T.val (D.int IntKind.i64 a.kind)), (12, T.ptr 3 0), (15, T.ptr 2 2), (18, T.val (D.int IntKind.i64 b.item))] ?_ fun h_6_13 => ?_
    · skip
      refine coreS.step E_ok [1, 3, 8, 11] (by kernel_rfl) (by simp) ?_
      refine anyS.cons rfl ?_ ?_
      · skip
        simp [encNote, hc5]
        skip
        exact contS.mk (by simp [Weak, TW, T.plain, encNote]) h_1_6_13 (by kernel_rfl)
      refine anyS.cons rfl ?_ ?_
      · skip
        simp [encNote, hc5]
        skip
        exact contS.mk (by simp [Weak, TW, T.plain, encNote]) h_3_6_13 (by kernel_rfl)
      refine anyS.cons rfl ?_ ?_
      · skip
        simp [encNote, hc5]
        skip
        exact contS.mk (by simp [Weak, TW, T.plain, encNote]) h_6_8_13 (by kernel_rfl)
      refine anyS.cons rfl ?_ ?_
      · skip
        simp [encNote, hc5]
        skip
        exact contS.mk (by simp [Weak, TW, T.plain, encNote]) h_6_11_13 (by kernel_rfl)
      exact anyS.nil
    refine contS.cut 10 #[true, false, true, false, false, true, false, true, true, false, true, true, true, false, false, false, false, false] [(0, T.val (zt24x3 a)), (1, T.val (zt24x4 b)), (2, T.box (zt24x1 a)), (3, T.box (zt24x2 b)), (4, T.val (D.int IntKind.i64 (0 : Int))), (5, T.ptr 2 1), (7, T.ptr 3 1), (10, T.ptr 2 0), (13, T.val (D.int IntKind.i64 b.kind)), (16, T.val (D.int IntKind.i64 a.item)), (17, T.ptr 3 2)] ?_ fun h_8_11 => ?_
    · skip
      refine coreS.step E_ok [1, 3, 6, 13] (by kernel_rfl) (by simp) ?_
      refine anyS.cons rfl ?_ ?_
      · skip
        simp [encNote, hc5]
        skip
        exact contS.mk (by simp [Weak, TW, T.plain, encNote]) h_1_8_11 (by kernel_rfl)
      refine anyS.cons rfl ?_ ?_
      · skip
        simp [encNote, hc5]
        skip
        exact contS.mk (by simp [Weak, TW, T.plain, encNote]) h_3_8_11 (by kernel_rfl)
      refine anyS.cons rfl ?_ ?_
      · skip
        simp [encNote, hc5]
        skip
        exact contS.mk (by simp [Weak, TW, T.plain, encNote]) h_6_8_11 (by kernel_rfl)
      refine anyS.cons rfl ?_ ?_
      · skip
        simp [encNote, hc5]
        skip
        exact contS.mk (by simp [Weak, TW, T.plain, encNote]) h_8_11_13 (by kernel_rfl)
      exact anyS.nil
    refine contS.cut 10 #[true, false, true, false, false, true, false, true, true, false, true, false, true, true, false, false, false, false] [(0, T.val (zt24x3 a)), (1, T.val (zt24x4 b)), (2, T.box (zt24x1 a)), (3, T.box (zt24x2 b)), (4, T.val (D.int IntKind.i64 (0 : Int))), (5, T.ptr 2 1), (7, T.ptr 3 1), (10, T.ptr 2 0), (13, T.val (D.int IntKind.i64 b.kind)), (15, T.ptr 2 2), (18, T.val (D.int IntKind.i64 b.item))] ?_ fun h_8_13 => ?_
    · skip
      refine coreS.step E_ok [1, 3, 6, 11] (by kernel_rfl) (by simp) ?_
      refine anyS.cons rfl ?_ ?_
      · skip
        simp [encNote, hc5]
        skip
        exact contS.mk (by simp [Weak, TW, T.plain, encNote]) h_1_8_13 (by kernel_rfl)
      refine anyS.cons rfl ?_ ?_
      · skip
        simp [encNote, hc5]
        skip
        exact contS.mk (by simp [Weak, TW, T.plain, encNote]) h_3_8_13 (by kernel_rfl)
      refine anyS.cons rfl ?_ ?_
      · skip
        simp [encNote, hc5]
        skip
        exact contS.mk (by simp [Weak, TW, T.plain, encNote]) h_6_8_13 (by kernel_rfl)
      refine anyS.cons rfl ?_ ?_
      · skip
        simp [encNote, hc5]
        skip
        exact contS.mk (by simp [Weak, TW, T.plain, encNote]) h_8_11_13 (by kernel_rfl)
      exact anyS.nil
    refine contS.cut 10 #[true, false, true, false, false, true, false, true, false, false, true, true, true, true, false, false, false, false] [(0, T.val (zt24x3 a)), (1, T.val (zt24x4 b)), (2, T.box (zt24x1 a)), (3, T.box (zt24x2 b)), (4, T.val (D.int IntKind.i64 (0 : Int))), (5, T.ptr 2 1), (7, T.ptr 3 1), (10, T.ptr 2 0), (12, T.ptr 3 0), (16, T.val (D.int IntKind.i64 a.item)), (18, T.val (D.int IntKind.i64 b.item))] ?_ fun h_11_13 => ?_
    · skip
      refine coreS.step E_ok [1, 3, 6, 8] (by kernel_rfl) (by simp) ?_
      refine anyS.cons rfl ?_ ?_
      · skip
        simp [encNote, hc5]
        skip
        exact contS.mk (by simp [Weak, TW, T.plain, encNote]) h_1_11_13 (by kernel_rfl)
      refine anyS.cons rfl ?_ ?_
      · skip
        simp [encNote, hc5]
        skip
        exact contS.mk (by simp [Weak, TW, T.plain, encNote]) h_3_11_13 (by kernel_rfl)
      refine anyS.cons rfl ?_ ?_
      · skip
        simp [encNote, hc5]
        skip
        exact contS.mk (by simp [Weak, TW, T.plain, encNote]) h_6_11_13 (by kernel_rfl)
      refine anyS.cons rfl ?_ ?_
      · skip
        simp [encNote, hc5]
        skip
        exact contS.mk (by simp [Weak, TW, T.plain, encNote]) h_8_11_13 (by kernel_rfl)
      exact anyS.nil
    refine contS.cut 11 #[true, true, true, false, false, true, false, true, false, false, true, false, true, false, false, false, false, false] [(0, T.val (zt24x3 a)), (1, T.val (zt24x4 b)), (2, T.box (zt24x1 a)), (3, T.box (zt24x2 b)), (4, T.val (D.int IntKind.i64 (0 : Int))), (6, T.val (D.int IntKind.i64 a.patron)), (7, T.ptr 3 1), (10, T.ptr 2 0), (12, T.ptr 3 0), (15, T.ptr 2 2), (17, T.ptr 3 2)] ?_ fun h_1 => ?_
    · skip
      refine coreS.step E_ok [3, 6, 8, 11, 13] (by kernel_rfl) (by simp) ?_
      refine anyS.cons rfl ?_ ?_
      · skip
        simp [encNote, hc5]
        skip
        exact contS.mk (by simp [Weak, TW, T.plain, encNote]) h_1_3 (by kernel_rfl)
      refine anyS.cons rfl ?_ ?_
      · skip
        simp [encNote, hc5]
        skip
        exact contS.mk (by simp [Weak, TW, T.plain, encNote]) h_1_6 (by kernel_rfl)
      refine anyS.cons rfl ?_ ?_
      · skip
        simp [encNote, hc5]
        skip
        exact contS.mk (by simp [Weak, TW, T.plain, encNote]) h_1_8 (by kernel_rfl)
      refine anyS.cons rfl ?_ ?_
      · skip
        simp [encNote, hc5]
        skip
        exact contS.mk (by simp [Weak, TW, T.plain, encNote]) h_1_11 (by kernel_rfl)
      refine anyS.cons rfl ?_ ?_
      · skip
        simp [encNote, hc5]
        skip
        exact contS.mk (by simp [Weak, TW, T.plain, encNote]) h_1_13 (by kernel_rfl)
      exact anyS.nil
    refine contS.cut 11 #[true, false, true, true, false, true, false, true, false, false, true, false, true, false, false, false, false, false] [(0, T.val (zt24x3 a)), (1, T.val (zt24x4 b)), (2, T.box (zt24x1 a)), (3, T.box (zt24x2 b)), (4, T.val (D.int IntKind.i64 (0 : Int))), (5, T.ptr 2 1), (8, T.val (D.int IntKind.i64 b.patron)), (10, T.ptr 2 0), (12, T.ptr 3 0), (15, T.ptr 2 2), (17, T.ptr 3 2)] ?_ fun h_3 => ?_
    · skip
      refine coreS.step E_ok [1, 6, 8, 11, 13] (by kernel_rfl) (by simp) ?_
      refine anyS.cons rfl ?_ ?_
      · skip
        simp [encNote, hc5]
        skip
        exact contS.mk (by simp [Weak, TW, T.plain, encNote]) h_1_3 (by kernel_rfl)
      refine anyS.cons rfl ?_ ?_
      · skip
        simp [encNote, hc5]
        skip
        exact contS.mk (by simp [Weak, TW, T.plain, encNote]) h_3_6 (by kernel_rfl)
      refine anyS.cons rfl ?_ ?_
      · skip
        simp [encNote, hc5]
        skip
        exact contS.mk (by simp [Weak, TW, T.plain, encNote]) h_3_8 (by kernel_rfl)
      refine anyS.cons rfl ?_ ?_
      · skip
        simp [encNote, hc5]
        skip
        exact contS.mk (by simp [Weak, TW, T.plain, encNote]) h_3_11 (by kernel_rfl)
      refine anyS.cons rfl ?_ ?_
      · skip
        simp [encNote, hc5]
        skip
        exact contS.mk (by simp [Weak, TW, T.plain, encNote]) h_3_13 (by kernel_rfl)
      exact anyS.nil
    refine contS.cut 11 #[true, false, true, false, false, true, true, true, false, false, true, false, true, false, false, false, false, false] [(0, T.val (zt24x3 a)), (1, T.val (zt24x4 b)), (2, T.box (zt24x1 a)), (3, T.box (zt24x2 b)), (4, T.val (D.int IntKind.i64 (0 : Int))), (5, T.ptr 2 1), (7, T.ptr 3 1), (11, T.val (D.int IntKind.i64 a.kind)), (12, T.ptr 3 0), (15, T.ptr 2 2), (17, T.ptr 3 2)] ?_ fun h_6 => ?_
    · skip
      refine coreS.step E_ok [1, 3, 8, 11, 13] (by kernel_rfl) (by simp) ?_
      refine anyS.cons rfl ?_ ?_
      · skip
        simp [encNote, hc5]
        skip
        exact contS.mk (by simp [Weak, TW, T.plain, encNote]) h_1_6 (by kernel_rfl)
      refine anyS.cons rfl ?_ ?_
      · skip
        simp [encNote, hc5]
        skip
        exact contS.mk (by simp [Weak, TW, T.plain, encNote]) h_3_6 (by kernel_rfl)
      refine anyS.cons rfl ?_ ?_
      · skip
        simp [encNote, hc5]
        skip
        exact contS.mk (by simp [Weak, TW, T.plain, encNote]) h_6_8 (by kernel_rfl)
      refine anyS.cons rfl ?_ ?_
      · skip
        simp [encNote, hc5]
        skip
        exact contS.mk (by simp [Weak, TW, T.plain, encNote]) h_6_11 (by kernel_rfl)
      refine anyS.cons rfl ?_ ?_
      · skip
        simp [encNote, hc5]
        skip
        exact contS.mk (by simp [Weak, TW, T.plain, encNote]) h_6_13 (by kernel_rfl)
      exact anyS.nil
    refine contS.cut 11 #[true, false, true, false, false, true, false, true, true, false, true, false, true, false, false, false, false, false] [(0, T.val (zt24x3 a)), (1, T.val (zt24x4 b)), (2, T.box (zt24x1 a)), (3, T.box (zt24x2 b)), (4, T.val (D.int IntKind.i64 (0 : Int))), (5, T.ptr 2 1), (7, T.ptr 3 1), (10, T.ptr 2 0), (13, T.val (D.int IntKind.i64 b.kind)), (15, T.ptr 2 2), (17, T.ptr 3 2)] ?_ fun h_8 => ?_
    · skip
      refine coreS.step E_ok [1, 3, 6, 11, 13] (by kernel_rfl) (by simp) ?_
      refine anyS.cons rfl ?_ ?_
      · skip
        simp [encNote, hc5]
        skip
        exact contS.mk (by simp [Weak, TW, T.plain, encNote]) h_1_8 (by kernel_rfl)
      refine anyS.cons rfl ?_ ?_
      · skip
        simp [encNote, hc5]
        skip
        exact contS.mk (by simp [Weak, TW, T.plain, encNote]) h_3_8 (by kernel_rfl)
      refine anyS.cons rfl ?_ ?_
      · skip
        simp [encNote, hc5]
        skip
        exact contS.mk (by simp [Weak, TW, T.plain, encNote]) h_6_8 (by kernel_rfl)
      refine anyS.cons rfl ?_ ?_
      · skip
        simp [encNote, hc5]
        skip
        exact contS.mk (by simp [Weak, TW, T.plain, encNote]) h_8_11 (by kernel_rfl)
      refine anyS.cons rfl ?_ ?_
      · skip
        simp [encNote, hc5]
        skip
        exact contS.mk (by simp [Weak, TW, T.plain, encNote]) h_8_13 (by kernel_rfl)
      exact anyS.nil
    refine contS.cut 11 #[true, false, true, false, false, true, false, true, false, false, true, true, true, false, false, false, false, false] [(0, T.val (zt24x3 a)), (1, T.val (zt24x4 b)), (2, T.box (zt24x1 a)), (3, T.box (zt24x2 b)), (4, T.val (D.int IntKind.i64 (0 : Int))), (5, T.ptr 2 1), (7, T.ptr 3 1), (10, T.ptr 2 0), (12, T.ptr 3 0), (16, T.val (D.int IntKind.i64 a.item)), (17, T.ptr 3 2)] ?_ fun h_11 => ?_
    · skip
      refine coreS.step E_ok [1, 3, 6, 8, 13] (by kernel_rfl) (by simp) ?_
      refine anyS.cons rfl ?_ ?_
      · skip
        simp [encNote, hc5]
        skip
        exact contS.mk (by simp [Weak, TW, T.plain, encNote]) h_1_11 (by kernel_rfl)
      refine anyS.cons rfl ?_ ?_
      · skip
        simp [encNote, hc5]
        skip
        exact contS.mk (by simp [Weak, TW, T.plain, encNote]) h_3_11 (by kernel_rfl)
      refine anyS.cons rfl ?_ ?_
      · skip
        simp [encNote, hc5]
        skip
        exact contS.mk (by simp [Weak, TW, T.plain, encNote]) h_6_11 (by kernel_rfl)
      refine anyS.cons rfl ?_ ?_
      · skip
        simp [encNote, hc5]
        skip
        exact contS.mk (by simp [Weak, TW, T.plain, encNote]) h_8_11 (by kernel_rfl)
      refine anyS.cons rfl ?_ ?_
      · skip
        simp [encNote, hc5]
        skip
        exact contS.mk (by simp [Weak, TW, T.plain, encNote]) h_11_13 (by kernel_rfl)
      exact anyS.nil
    refine contS.cut 11 #[true, false, true, false, false, true, false, true, false, false, true, false, true, true, false, false, false, false] [(0, T.val (zt24x3 a)), (1, T.val (zt24x4 b)), (2, T.box (zt24x1 a)), (3, T.box (zt24x2 b)), (4, T.val (D.int IntKind.i64 (0 : Int))), (5, T.ptr 2 1), (7, T.ptr 3 1), (10, T.ptr 2 0), (12, T.ptr 3 0), (15, T.ptr 2 2), (18, T.val (D.int IntKind.i64 b.item))] ?_ fun h_13 => ?_
    · skip
      refine coreS.step E_ok [1, 3, 6, 8, 11] (by kernel_rfl) (by simp) ?_
      refine anyS.cons rfl ?_ ?_
      · skip
        simp [encNote, hc5]
        skip
        exact contS.mk (by simp [Weak, TW, T.plain, encNote]) h_1_13 (by kernel_rfl)
      refine anyS.cons rfl ?_ ?_
      · skip
        simp [encNote, hc5]
        skip
        exact contS.mk (by simp [Weak, TW, T.plain, encNote]) h_3_13 (by kernel_rfl)
      refine anyS.cons rfl ?_ ?_
      · skip
        simp [encNote, hc5]
        skip
        exact contS.mk (by simp [Weak, TW, T.plain, encNote]) h_6_13 (by kernel_rfl)
      refine anyS.cons rfl ?_ ?_
      · skip
        simp [encNote, hc5]
        skip
        exact contS.mk (by simp [Weak, TW, T.plain, encNote]) h_8_13 (by kernel_rfl)
      refine anyS.cons rfl ?_ ?_
      · skip
        simp [encNote, hc5]
        skip
        exact contS.mk (by simp [Weak, TW, T.plain, encNote]) h_11_13 (by kernel_rfl)
      exact anyS.nil
    refine contS.cut 12 #[true, false, true, false, false, true, false, true, false, false, true, false, true, false, false, false, false, false] [(0, T.val (zt24x3 a)), (1, T.val (zt24x4 b)), (2, T.box (zt24x1 a)), (3, T.box (zt24x2 b)), (4, T.val (D.int IntKind.i64 (0 : Int))), (5, T.ptr 2 1), (7, T.ptr 3 1), (10, T.ptr 2 0), (12, T.ptr 3 0), (15, T.ptr 2 2), (17, T.ptr 3 2)] ?_ fun h_ => ?_
    · skip
      refine coreS.step E_ok [1, 3, 6, 8, 11, 13] (by kernel_rfl) (by simp) ?_
      refine anyS.cons rfl ?_ ?_
      · skip
        simp [encNote, hc5]
        skip
        exact contS.mk (by simp [Weak, TW, T.plain, encNote]) h_1 (by kernel_rfl)
      refine anyS.cons rfl ?_ ?_
      · skip
        simp [encNote, hc5]
        skip
        exact contS.mk (by simp [Weak, TW, T.plain, encNote]) h_3 (by kernel_rfl)
      refine anyS.cons rfl ?_ ?_
      · skip
        simp [encNote, hc5]
        skip
        exact contS.mk (by simp [Weak, TW, T.plain, encNote]) h_6 (by kernel_rfl)
      refine anyS.cons rfl ?_ ?_
      · skip
        simp [encNote, hc5]
        skip
        exact contS.mk (by simp [Weak, TW, T.plain, encNote]) h_8 (by kernel_rfl)
      refine anyS.cons rfl ?_ ?_
      · skip
        simp [encNote, hc5]
        skip
        exact contS.mk (by simp [Weak, TW, T.plain, encNote]) h_11 (by kernel_rfl)
      refine anyS.cons rfl ?_ ?_
      · skip
        simp [encNote, hc5]
        skip
        exact contS.mk (by simp [Weak, TW, T.plain, encNote]) h_13 (by kernel_rfl)
      exact anyS.nil
    refine contS.now (f' := 18) (l' := #[false, false, false, false, false, false, false, false, false, false, false, false, false, false, false, false, false, false]) ?_ rfl (by kernel_rfl)
    refine coreS.dry E_ok (by kernel_rfl) 0 rfl rfl (by kernel_rfl) (by kernel_rfl) ?_
    simp [encNote, hc5]
    skip
    refine contS.now (f' := 17) (l' := #[true, false, false, false, false, false, false, false, false, false, false, false, false, false, false, false, false, false]) ?_ rfl (by kernel_rfl)
    refine coreS.dry E_ok (by kernel_rfl) 2 rfl rfl (by kernel_rfl) (by kernel_rfl) ?_
    simp [encNote, hc5]
    skip
    refine contS.now (f' := 16) (l' := #[true, false, true, false, false, false, false, false, false, false, false, false, false, false, false, false, false, false]) ?_ rfl (by kernel_rfl)
    refine coreS.dry E_ok (by kernel_rfl) 5 rfl rfl (by kernel_rfl) (by kernel_rfl) ?_
    simp [encNote, hc5]
    skip
    refine contS.now (f' := 15) (l' := #[true, false, true, false, false, true, false, false, false, false, false, false, false, false, false, false, false, false]) ?_ rfl (by kernel_rfl)
    refine coreS.dry E_ok (by kernel_rfl) 7 rfl rfl (by kernel_rfl) (by kernel_rfl) ?_
    simp [encNote, hc5]
    skip
    refine contS.now (f' := 14) (l' := #[true, false, true, false, false, true, false, true, false, false, false, false, false, false, false, false, false, false]) ?_ rfl (by kernel_rfl)
    refine coreS.dry E_ok (by kernel_rfl) 10 rfl rfl (by kernel_rfl) (by kernel_rfl) ?_
    simp [encNote, hc5]
    skip
    refine contS.now (f' := 13) (l' := #[true, false, true, false, false, true, false, true, false, false, true, false, false, false, false, false, false, false]) ?_ rfl (by kernel_rfl)
    refine coreS.dry E_ok (by kernel_rfl) 12 rfl rfl (by kernel_rfl) (by kernel_rfl) ?_
    simp [encNote, hc5]
    skip
    exact contS.mk (by simp [Weak, TW, T.plain, encNote]) h_ (by kernel_rfl)
  refine hK _ ?_
  clear hK K
  refine AWp.ret ?_
  repeat first | refine thenN ?_ | refine thenX ?_ | refine thenR ?_ | refine blockN ?_ | refine blockR ?_ | refine blockX ?_ | refine blockM rfl ?_
  simp [RetOk, RV]
end Go.Proofs.YtjpjndfdncalfaaDoor

set_option maxRecDepth 100000
set_option linter.unusedSimpArgs false
set_option linter.unusedVariables false
namespace Go.Proofs.YtjpjndfdncalfaaDoor
open Go Ab Pl
set_option maxHeartbeats 4000000 in
theorem slices_insertionSortCmpFunc_api_Notice (l : List Note) (a b : Nat) (h1 : a ≤ b) (h2 : b ≤ l.length) (hl : l.length ≤ 1000000) : MCalls E.P 47 (encNote zn) (noteL l) [.int .i64 (a : Int), .int .i64 (b : Int), .fn 24 []] (noteL (insS l a b)) := by
  refine MCalls.intro E_ok Tryd.func47 rfl rfl Tryd.ntmps47 Tryd.results47 (Nat.le_of_ble_eq_true rfl) (by simp) fun hok base S0 w0 vv => ?_
  have wa0 : IntKind.i64.wrap ((a : Int) + 1) = (a : Int) + 1 := wrap_i64 (by omega) (by omega)
  -- region 0
  refine AWp.rseq E_ok [0, 1, 2, 3, 8, 9, 14, 34, 53] fun K hK => ?_
  simp [wa0]
  repeat refine ⟨by first | omega | assumption | (simp only [maxLen]; omega) | (intros; omega) | decide, ?_⟩
  refine hK _ ?_
  clear hK K
  refine AWp.block ?_
  refine AWp.loop (ι := { y : List Note × Nat // y.1.length = l.length ∧ a + 1 ≤ y.2 ∧ insO y.1 a y.2 (b - y.2) = insS l a b }) (fun x => match x with | ⟨⟨l1, i⟩, hll, hia, heq⟩ => [(0, T.alias (53, 0)), (1, T.val (D.int IntKind.i64 ↑a)), (2, T.val (D.int IntKind.i64 ↑b)), (3, T.val (D.fn 24 [])), (8, T.val (.int .i64 (i : Int))), (53, T.lent vv true (encNote zn) (noteL l1))]) (fun x => match x with | ⟨⟨l1, i⟩, hll, hia, heq⟩ => b - i) ⟨(l, a + 1), rfl, by dsimp only; omega, rfl⟩ ?_ ?_
  · simp [Weak, TW]
  rintro ⟨⟨l1, i⟩, hll, hia, heq⟩
  simp only
  try simp only at hll
  try simp only at hia
  try simp only at heq
  refine AWp.seq ?_
  -- region 1
  refine AWp.rseq E_ok [0, 1, 2, 3, 8, 9, 14, 34, 53] fun K hK => ?_
  simp [wa0]
  repeat refine ⟨by first | omega | assumption | (simp only [maxLen]; omega) | (intros; omega) | decide, ?_⟩
  refine hK _ ?_
  clear hK K
  refine AWp.cond rfl (fun h14 => ?_) (fun h14 => ?_)
  · try simp at h14
    refine AWp.skip ?_
    repeat first | refine thenN ?_ | refine thenX ?_ | refine thenR ?_ | refine blockN ?_ | refine blockR ?_ | refine blockX ?_ | refine blockM rfl ?_
    refine AWp.seq ?_
    refine AWp.block ?_
    -- region 3
    refine AWp.rseq E_ok [0, 1, 2, 3, 8, 9, 14, 34, 53] fun K hK => ?_
    simp [wa0]
    repeat refine ⟨by first | omega | assumption | (simp only [maxLen]; omega) | (intros; omega) | decide, ?_⟩
    refine hK _ ?_
    clear hK K
    refine AWp.block ?_
    refine AWp.loop (ι := { y : List Note × Nat // y.1.length = l.length ∧ y.2 ≤ i ∧ insI y.1 a y.2 = insI l1 a i }) (fun x => match x with | ⟨⟨l2, j⟩, hl2, hji, hins⟩ => [(0, T.alias (53, 0)), (1, T.val (D.int IntKind.i64 ↑a)), (2, T.val (D.int IntKind.i64 ↑b)), (3, T.val (D.fn 24 [])), (8, T.val (D.int IntKind.i64 ↑i)), (9, T.val (.int .i64 (j : Int))), (53, T.lent vv true (encNote zn) (noteL l2))]) (fun x => match x with | ⟨⟨l2, j⟩, hl2, hji, hins⟩ => j) ⟨(l1, i), hll, Nat.le_refl _, rfl⟩ ?_ ?_
    · simp [Weak, TW]
    rintro ⟨⟨l2, j⟩, hl2, hji, hins⟩
    simp only
    try simp only at hl2
    try simp only at hji
    try simp only at hins
    refine AWp.seq ?_
    rcases Nat.lt_or_ge a j with hja | hja
    · skip
      have hib : i < b := by omega
      obtain ⟨p, hp⟩ : ∃ z, z = j - 1 := ⟨_, rfl⟩
      obtain ⟨x, hx⟩ : ∃ x, l2[j]? = some x := ⟨_, List.getElem?_eq_getElem (by omega)⟩
      obtain ⟨y, hy⟩ : ∃ y, l2[p]? = some y := ⟨_, List.getElem?_eq_getElem (by omega)⟩
      have ex := noteL_get hx
      have ey := noteL_get hy
      have em := noteL_mid (i := j) (z := y) (by omega) hy
      have es := noteL_swap hx hy
      have hlt := ltA_eq hx hy
      have hc4 := cmpN_rng x y
      have wj : IntKind.i64.wrap ((j : Int) - 1) = (p : Int) := by rw [wrap_i64 (by omega) (by omega)]; omega
      -- region 4
      refine AWp.rseqQ E_ok mixed [0, 1, 2, 3, 8, 9, 14, 34, 53] (by kernel_rfl) fun K hK => ?_
      simp [wa0, hja, ex, ey, wj]
      repeat refine ⟨by first | omega | assumption | (simp only [maxLen]; omega) | (intros; omega) | decide, ?_⟩
      refine meet.ofG (fun hz => by first | exact notice_Due_1 x y | exact (absurd hz (by simp) : ACalls E.P _ _ (.d (.int .i64 0)))) ?_
      simp [wa0, hja, ex, ey, wj]
      repeat refine ⟨by first | omega | assumption | (simp only [maxLen]; omega) | (intros; omega) | decide, ?_⟩
      refine hK _ ?_
      clear hK K
      refine AWp.cond rfl (fun h34 => ?_) (fun h34 => ?_)
      · try simp at h34
        have hin : insI l2 a j = insI (swapA l2 j p) a p := insI_go (by omega) hja (by rw [hlt]; exact decide_eq_true h34)
        refine AWp.skip ?_
        repeat first | refine thenN ?_ | refine thenX ?_ | refine thenR ?_ | refine blockN ?_ | refine blockR ?_ | refine blockX ?_ | refine blockM rfl ?_
        refine AWp.seq ?_
        refine AWp.block ?_
        -- region 6, every order
        refine AWp.rendS E_ok mixed [0, 1, 2, 3, 8, 9, 14, 34, 53] (n := 18) (l := #[false, false, false, false, false, false, false, false, false, false, false, false, false, false, false, false, false, false]) rfl (by kernel_rfl) fun K hK => ?_
        suffices hnext : K [(0, T.alias (53, 0)), (1, T.val (D.int IntKind.i64 ↑a)), (2, T.val (D.int IntKind.i64 ↑b)), (3, T.val (D.fn (24 : FuncId) [])), (8, T.val (D.int IntKind.i64 ↑i)), (9, T.val (D.int IntKind.i64 ↑j)), (14, T.junk), (34, T.val (D.bool (decide (cmpN x y < (0 : Int))))), (53, T.lent vv true (encNote zn) (noteL (swapA l2 j p)))] by
          refine contS.cut 0 #[true, true, true, true, true, true, true, true, true, true, true, true, true, true, true, true, true, true] [(0, T.alias (53, 0)), (1, T.val (D.int IntKind.i64 ↑a)), (2, T.val (D.int IntKind.i64 ↑b)), (3, T.val (D.fn (24 : FuncId) [])), (8, T.val (D.int IntKind.i64 ↑i)), (9, T.val (D.int IntKind.i64 ↑j)), (34, T.val (D.bool (decide (cmpN x y < (0 : Int))))), (53, T.lent vv true (encNote zn) (noteL (swapA l2 j p)))] ?_ fun h_9_13_15_17_ => ?_
          · skip
            refine coreS.nil (by kernel_rfl) ?_
            simpa using hnext
          refine contS.cut 1 #[true, true, true, true, true, true, true, true, true, true, true, true, true, true, true, true, true, false] [(0, T.alias (53, 0)), (1, T.val (D.int IntKind.i64 ↑a)), (2, T.val (D.int IntKind.i64 ↑b)), (3, T.val (D.fn (24 : FuncId) [])), (8, T.val (D.int IntKind.i64 ↑i)), (9, T.val (D.int IntKind.i64 ↑j)), (34, T.val (D.bool (decide (cmpN x y < (0 : Int))))), (50, T.val (D.agg [D.int IntKind.i64 x.kind, D.int IntKind.i64 x.patron, D.int IntKind.i64 x.item, D.int IntKind.i64 x.day])), (52, T.optr (53, 0) p 0), (53, T.lent vv true (encNote zn) ((noteL l2).set j (D.agg [D.int IntKind.i64 y.kind, D.int IntKind.i64 y.patron, D.int IntKind.i64 y.item, D.int IntKind.i64 y.day])))] ?_ fun h_9_13_15 => ?_
          · skip
            refine coreS.step E_ok [17] (by kernel_rfl) (by simp) ?_
            refine anyS.cons rfl ?_ ?_
            · skip
              simp [wa0, hja, ex, ey, wj, em, es]
              repeat refine ⟨by first | omega | assumption | (simp only [maxLen]; omega) | (intros; omega) | decide, ?_⟩
              exact contS.mk (by simp [Weak, TW, T.plain]) h_9_13_15_17_ (by kernel_rfl)
            exact anyS.nil
          refine contS.cut 3 #[true, true, true, true, true, true, true, true, true, true, true, true, true, true, true, false, false, false] [(0, T.alias (53, 0)), (1, T.val (D.int IntKind.i64 ↑a)), (2, T.val (D.int IntKind.i64 ↑b)), (3, T.val (D.fn (24 : FuncId) [])), (8, T.val (D.int IntKind.i64 ↑i)), (9, T.val (D.int IntKind.i64 ↑j)), (34, T.val (D.bool (decide (cmpN x y < (0 : Int))))), (39, T.alias (53, 0)), (41, T.val (D.int IntKind.i64 ↑p)), (46, T.val (D.agg [D.int IntKind.i64 y.kind, D.int IntKind.i64 y.patron, D.int IntKind.i64 y.item, D.int IntKind.i64 y.day])), (50, T.val (D.agg [D.int IntKind.i64 x.kind, D.int IntKind.i64 x.patron, D.int IntKind.i64 x.item, D.int IntKind.i64 x.day])), (51, T.optr (53, 0) j 0), (53, T.lent vv true (encNote zn) (noteL l2))] ?_ fun h_9_13 => ?_
          · skip
            refine coreS.step E_ok [15] (by kernel_rfl) (by simp) ?_
            refine anyS.cons rfl ?_ ?_
            · skip
              simp [wa0, hja, ex, ey, wj, em, es]
              repeat refine ⟨by first | omega | assumption | (simp only [maxLen]; omega) | (intros; omega) | decide, ?_⟩
              refine contS.now (f' := 2) (l' := #[true, true, true, true, true, true, true, true, true, true, true, true, true, true, true, true, false, false]) ?_ rfl (by kernel_rfl)
              refine coreS.dry E_ok (by kernel_rfl) 16 rfl rfl (by kernel_rfl) (by kernel_rfl) ?_
              simp [wa0, hja, ex, ey, wj, em, es]
              repeat refine ⟨by first | omega | assumption | (simp only [maxLen]; omega) | (intros; omega) | decide, ?_⟩
              exact contS.mk (by simp [Weak, TW, T.plain]) h_9_13_15 (by kernel_rfl)
            exact anyS.nil
          refine contS.cut 5 #[true, true, true, true, true, true, true, true, true, true, true, true, true, false, false, false, false, false] [(0, T.alias (53, 0)), (1, T.val (D.int IntKind.i64 ↑a)), (2, T.val (D.int IntKind.i64 ↑b)), (3, T.val (D.fn (24 : FuncId) [])), (8, T.val (D.int IntKind.i64 ↑i)), (9, T.val (D.int IntKind.i64 ↑j)), (34, T.val (D.bool (decide (cmpN x y < (0 : Int))))), (37, T.alias (53, 0)), (38, T.val (D.int IntKind.i64 ↑j)), (39, T.alias (53, 0)), (41, T.val (D.int IntKind.i64 ↑p)), (46, T.val (D.agg [D.int IntKind.i64 y.kind, D.int IntKind.i64 y.patron, D.int IntKind.i64 y.item, D.int IntKind.i64 y.day])), (49, T.optr (53, 0) j 0), (53, T.lent vv true (encNote zn) (noteL l2))] ?_ fun h_9 => ?_
          · skip
            refine coreS.step E_ok [13] (by kernel_rfl) (by simp) ?_
            refine anyS.cons rfl ?_ ?_
            · skip
              simp [wa0, hja, ex, ey, wj, em, es]
              repeat refine ⟨by first | omega | assumption | (simp only [maxLen]; omega) | (intros; omega) | decide, ?_⟩
              refine contS.now (f' := 4) (l' := #[true, true, true, true, true, true, true, true, true, true, true, true, true, true, false, false, false, false]) ?_ rfl (by kernel_rfl)
              refine coreS.dry E_ok (by kernel_rfl) 14 rfl rfl (by kernel_rfl) (by kernel_rfl) ?_
              simp [wa0, hja, ex, ey, wj, em, es]
              repeat refine ⟨by first | omega | assumption | (simp only [maxLen]; omega) | (intros; omega) | decide, ?_⟩
              exact contS.mk (by simp [Weak, TW, T.plain]) h_9_13 (by kernel_rfl)
            exact anyS.nil
          refine contS.cut 5 #[true, true, true, true, true, true, true, true, true, false, true, true, true, true, false, false, false, false] [(0, T.alias (53, 0)), (1, T.val (D.int IntKind.i64 ↑a)), (2, T.val (D.int IntKind.i64 ↑b)), (3, T.val (D.fn (24 : FuncId) [])), (8, T.val (D.int IntKind.i64 ↑i)), (9, T.val (D.int IntKind.i64 ↑j)), (34, T.val (D.bool (decide (cmpN x y < (0 : Int))))), (37, T.alias (53, 0)), (38, T.val (D.int IntKind.i64 ↑j)), (39, T.alias (53, 0)), (41, T.val (D.int IntKind.i64 ↑p)), (45, T.optr (53, 0) p 0), (50, T.val (D.agg [D.int IntKind.i64 x.kind, D.int IntKind.i64 x.patron, D.int IntKind.i64 x.item, D.int IntKind.i64 x.day])), (53, T.lent vv true (encNote zn) (noteL l2))] ?_ fun h_13 => ?_
          · skip
            refine coreS.step E_ok [9] (by kernel_rfl) (by simp) ?_
            refine anyS.cons rfl ?_ ?_
            · skip
              simp [wa0, hja, ex, ey, wj, em, es]
              repeat refine ⟨by first | omega | assumption | (simp only [maxLen]; omega) | (intros; omega) | decide, ?_⟩
              refine contS.now (f' := 4) (l' := #[true, true, true, true, true, true, true, true, true, true, true, true, true, true, false, false, false, false]) ?_ rfl (by kernel_rfl)
              refine coreS.dry E_ok (by kernel_rfl) 14 rfl rfl (by kernel_rfl) (by kernel_rfl) ?_
              simp [wa0, hja, ex, ey, wj, em, es]
              repeat refine ⟨by first | omega | assumption | (simp only [maxLen]; omega) | (intros; omega) | decide, ?_⟩
              exact contS.mk (by simp [Weak, TW, T.plain]) h_9_13 (by kernel_rfl)
            exact anyS.nil
          refine contS.cut 6 #[true, true, true, true, true, true, true, true, true, false, true, true, true, false, false, false, false, false] [(0, T.alias (53, 0)), (1, T.val (D.int IntKind.i64 ↑a)), (2, T.val (D.int IntKind.i64 ↑b)), (3, T.val (D.fn (24 : FuncId) [])), (8, T.val (D.int IntKind.i64 ↑i)), (9, T.val (D.int IntKind.i64 ↑j)), (34, T.val (D.bool (decide (cmpN x y < (0 : Int))))), (37, T.alias (53, 0)), (38, T.val (D.int IntKind.i64 ↑j)), (39, T.alias (53, 0)), (41, T.val (D.int IntKind.i64 ↑p)), (45, T.optr (53, 0) p 0), (49, T.optr (53, 0) j 0), (53, T.lent vv true (encNote zn) (noteL l2))] ?_ fun h_ => ?_
          · skip
            refine coreS.step E_ok [9, 13] (by kernel_rfl) (by simp) ?_
            refine anyS.cons rfl ?_ ?_
            · skip
              simp [wa0, hja, ex, ey, wj, em, es]
              repeat refine ⟨by first | omega | assumption | (simp only [maxLen]; omega) | (intros; omega) | decide, ?_⟩
              exact contS.mk (by simp [Weak, TW, T.plain]) h_9 (by kernel_rfl)
            refine anyS.cons rfl ?_ ?_
            · skip
              simp [wa0, hja, ex, ey, wj, em, es]
              repeat refine ⟨by first | omega | assumption | (simp only [maxLen]; omega) | (intros; omega) | decide, ?_⟩
              exact contS.mk (by simp [Weak, TW, T.plain]) h_13 (by kernel_rfl)
            exact anyS.nil
          refine contS.now (f' := 18) (l' := #[false, false, false, false, false, false, false, false, false, false, false, false, false, false, false, false, false, false]) ?_ rfl (by kernel_rfl)
          refine coreS.dry E_ok (by kernel_rfl) 0 rfl rfl (by kernel_rfl) (by kernel_rfl) ?_
          simp [wa0, hja, ex, ey, wj, em, es]
          repeat refine ⟨by first | omega | assumption | (simp only [maxLen]; omega) | (intros; omega) | decide, ?_⟩
          refine contS.now (f' := 17) (l' := #[true, false, false, false, false, false, false, false, false, false, false, false, false, false, false, false, false, false]) ?_ rfl (by kernel_rfl)
          refine coreS.dry E_ok (by kernel_rfl) 1 rfl rfl (by kernel_rfl) (by kernel_rfl) ?_
          simp [wa0, hja, ex, ey, wj, em, es]
          repeat refine ⟨by first | omega | assumption | (simp only [maxLen]; omega) | (intros; omega) | decide, ?_⟩
          refine contS.now (f' := 16) (l' := #[true, true, false, false, false, false, false, false, false, false, false, false, false, false, false, false, false, false]) ?_ rfl (by kernel_rfl)
          refine coreS.dry E_ok (by kernel_rfl) 2 rfl rfl (by kernel_rfl) (by kernel_rfl) ?_
          simp [wa0, hja, ex, ey, wj, em, es]
          repeat refine ⟨by first | omega | assumption | (simp only [maxLen]; omega) | (intros; omega) | decide, ?_⟩
          refine contS.now (f' := 15) (l' := #[true, true, true, false, false, false, false, false, false, false, false, false, false, false, false, false, false, false]) ?_ rfl (by kernel_rfl)
          refine coreS.dry E_ok (by kernel_rfl) 3 rfl rfl (by kernel_rfl) (by kernel_rfl) ?_
          simp [wa0, hja, ex, ey, wj, em, es]
          repeat refine ⟨by first | omega | assumption | (simp only [maxLen]; omega) | (intros; omega) | decide, ?_⟩
          refine contS.now (f' := 14) (l' := #[true, true, true, true, false, false, false, false, false, false, false, false, false, false, false, false, false, false]) ?_ rfl (by kernel_rfl)
          refine coreS.dry E_ok (by kernel_rfl) 4 rfl rfl (by kernel_rfl) (by kernel_rfl) ?_
          simp [wa0, hja, ex, ey, wj, em, es]
          repeat refine ⟨by first | omega | assumption | (simp only [maxLen]; omega) | (intros; omega) | decide, ?_⟩
          refine contS.now (f' := 13) (l' := #[true, true, true, true, true, false, false, false, false, false, false, false, false, false, false, false, false, false]) ?_ rfl (by kernel_rfl)
          refine coreS.dry E_ok (by kernel_rfl) 5 rfl rfl (by kernel_rfl) (by kernel_rfl) ?_
          simp [wa0, hja, ex, ey, wj, em, es]
          repeat refine ⟨by first | omega | assumption | (simp only [maxLen]; omega) | (intros; omega) | decide, ?_⟩
          refine contS.now (f' := 12) (l' := #[true, true, true, true, true, true, false, false, false, false, false, false, false, false, false, false, false, false]) ?_ rfl (by kernel_rfl)
          refine coreS.dry E_ok (by kernel_rfl) 6 rfl rfl (by kernel_rfl) (by kernel_rfl) ?_
          simp [wa0, hja, ex, ey, wj, em, es]
          repeat refine ⟨by first | omega | assumption | (simp only [maxLen]; omega) | (intros; omega) | decide, ?_⟩
          refine contS.now (f' := 11) (l' := #[true, true, true, true, true, true, true, false, false, false, false, false, false, false, false, false, false, false]) ?_ rfl (by kernel_rfl)
          refine coreS.dry E_ok (by kernel_rfl) 7 rfl rfl (by kernel_rfl) (by kernel_rfl) ?_
          simp [wa0, hja, ex, ey, wj, em, es]
          repeat refine ⟨by first | omega | assumption | (simp only [maxLen]; omega) | (intros; omega) | decide, ?_⟩
          refine contS.now (f' := 10) (l' := #[true, true, true, true, true, true, true, true, false, false, false, false, false, false, false, false, false, false]) ?_ rfl (by kernel_rfl)
          refine coreS.dry E_ok (by kernel_rfl) 8 rfl rfl (by kernel_rfl) (by kernel_rfl) ?_
          simp [wa0, hja, ex, ey, wj, em, es]
          repeat refine ⟨by first | omega | assumption | (simp only [maxLen]; omega) | (intros; omega) | decide, ?_⟩
          refine contS.now (f' := 9) (l' := #[true, true, true, true, true, true, true, true, true, false, false, false, false, false, false, false, false, false]) ?_ rfl (by kernel_rfl)
          refine coreS.dry E_ok (by kernel_rfl) 10 rfl rfl (by kernel_rfl) (by kernel_rfl) ?_
          simp [wa0, hja, ex, ey, wj, em, es]
          repeat refine ⟨by first | omega | assumption | (simp only [maxLen]; omega) | (intros; omega) | decide, ?_⟩
          refine contS.now (f' := 8) (l' := #[true, true, true, true, true, true, true, true, true, false, true, false, false, false, false, false, false, false]) ?_ rfl (by kernel_rfl)
          refine coreS.dry E_ok (by kernel_rfl) 11 rfl rfl (by kernel_rfl) (by kernel_rfl) ?_
          simp [wa0, hja, ex, ey, wj, em, es]
          repeat refine ⟨by first | omega | assumption | (simp only [maxLen]; omega) | (intros; omega) | decide, ?_⟩
          refine contS.now (f' := 7) (l' := #[true, true, true, true, true, true, true, true, true, false, true, true, false, false, false, false, false, false]) ?_ rfl (by kernel_rfl)
          refine coreS.dry E_ok (by kernel_rfl) 12 rfl rfl (by kernel_rfl) (by kernel_rfl) ?_
          simp [wa0, hja, ex, ey, wj, em, es]
          repeat refine ⟨by first | omega | assumption | (simp only [maxLen]; omega) | (intros; omega) | decide, ?_⟩
          exact contS.mk (by simp [Weak, TW, T.plain]) h_ (by kernel_rfl)
        refine hK _ ?_
        clear hK K
        repeat first | refine thenN ?_ | refine thenX ?_ | refine thenR ?_ | refine blockN ?_ | refine blockR ?_ | refine blockX ?_ | refine blockM rfl ?_
        -- region 5
        refine AWp.rend E_ok [0, 1, 2, 3, 8, 9, 14, 34, 53] fun K hK => ?_
        simp [wa0, hja, ex, ey, wj, em, es]
        repeat refine ⟨by first | omega | assumption | (simp only [maxLen]; omega) | (intros; omega) | decide, ?_⟩
        refine hK _ ?_
        clear hK K
        repeat first | refine thenN ?_ | refine thenX ?_ | refine thenR ?_ | refine blockN ?_ | refine blockR ?_ | refine blockX ?_ | refine blockM rfl ?_
        refine ⟨⟨(swapA l2 j p, p), by simp [hl2], by dsimp only; omega, by dsimp only; rw [← hin, hins]⟩, ?_, by dsimp only; omega⟩
        try dsimp only
        simp [Weak, TW, wj]
      · try simp at h34
        have hout : insI l2 a j = l2 := by first | exact insI_ge (by omega) | exact insI_no (p := p) (by omega) (by rw [hlt]; exact decide_eq_false (by omega))
        refine AWp.exit ?_
        repeat first | refine thenN ?_ | refine thenX ?_ | refine thenR ?_ | refine blockN ?_ | refine blockR ?_ | refine blockX ?_ | refine blockM rfl ?_
        -- region 2
        refine AWp.rend E_ok [0, 1, 2, 3, 8, 9, 14, 34, 53] fun K hK => ?_
        simp [wa0, hja, ex, ey, wj]
        repeat refine ⟨by first | omega | assumption | (simp only [maxLen]; omega) | (intros; omega) | decide, ?_⟩
        refine hK _ ?_
        clear hK K
        repeat first | refine thenN ?_ | refine thenX ?_ | refine thenR ?_ | refine blockN ?_ | refine blockR ?_ | refine blockX ?_ | refine blockM rfl ?_
        have wi : IntKind.i64.wrap ((i : Int) + 1) = (i : Int) + 1 := wrap_i64 (by omega) (by omega)
        have ho : insO l2 a (i + 1) (b - (i + 1)) = insS l a b := by rw [← heq, show b - i = (b - (i + 1)) + 1 by omega, insO, ← hins, hout]
        refine ⟨⟨(l2, i + 1), by simp [hl2], by dsimp only; omega, ho⟩, ?_, by dsimp only; omega⟩
        try dsimp only
        simp [Weak, TW, wi]
    · skip
      have hjn : ¬ a < j := by omega
      -- region 4
      refine AWp.rseqQ E_ok mixed [0, 1, 2, 3, 8, 9, 14, 34, 53] (by kernel_rfl) fun K hK => ?_
      simp [wa0, hjn]
      repeat refine ⟨by first | omega | assumption | (simp only [maxLen]; omega) | (intros; omega) | decide, ?_⟩
      refine meet.ofG (fun hz => by first | exact notice_Due_1 x y | exact (absurd hz (by simp) : ACalls E.P _ _ (.d (.int .i64 0)))) ?_
      simp [wa0, hjn]
      repeat refine ⟨by first | omega | assumption | (simp only [maxLen]; omega) | (intros; omega) | decide, ?_⟩
      refine hK _ ?_
      clear hK K
      refine AWp.cond rfl (fun h34 => ?_) (fun h34 => ?_)
      · exact absurd h34 (by simp)
      · try simp at h34
        have hout : insI l2 a j = l2 := by first | exact insI_ge (by omega) | exact insI_no (p := p) (by omega) (by rw [hlt]; exact decide_eq_false (by omega))
        refine AWp.exit ?_
        repeat first | refine thenN ?_ | refine thenX ?_ | refine thenR ?_ | refine blockN ?_ | refine blockR ?_ | refine blockX ?_ | refine blockM rfl ?_
        -- region 2
        refine AWp.rend E_ok [0, 1, 2, 3, 8, 9, 14, 34, 53] fun K hK => ?_
        simp [wa0, hjn]
        repeat refine ⟨by first | omega | assumption | (simp only [maxLen]; omega) | (intros; omega) | decide, ?_⟩
        refine hK _ ?_
        clear hK K
        repeat first | refine thenN ?_ | refine thenX ?_ | refine thenR ?_ | refine blockN ?_ | refine blockR ?_ | refine blockX ?_ | refine blockM rfl ?_
        have wi : IntKind.i64.wrap ((i : Int) + 1) = (i : Int) + 1 := wrap_i64 (by omega) (by omega)
        have ho : insO l2 a (i + 1) (b - (i + 1)) = insS l a b := by rw [← heq, show b - i = (b - (i + 1)) + 1 by omega, insO, ← hins, hout]
        refine ⟨⟨(l2, i + 1), by simp [hl2], by dsimp only; omega, ho⟩, ?_, by dsimp only; omega⟩
        try dsimp only
        simp [Weak, TW, wi]
  · try simp at h14
    have hfin : l1 = insS l a b := by rw [← heq, show b - i = 0 by omega]; rfl
    refine AWp.exit ?_
    repeat first | refine thenN ?_ | refine thenX ?_ | refine thenR ?_ | refine blockN ?_ | refine blockR ?_ | refine blockX ?_ | refine blockM rfl ?_
    simp [← hfin]
end Go.Proofs.YtjpjndfdncalfaaDoor

set_option maxRecDepth 100000
set_option linter.unusedSimpArgs false
set_option linter.unusedVariables false
namespace Go.Proofs.YtjpjndfdncalfaaDoor
open Go Ab Pl
set_option maxHeartbeats 4000000 in
theorem slices_swapRangeCmpFunc_api_Notice (l : List Note) (a b n : Nat) (h1 : a + n ≤ b) (h2 : b + n ≤ l.length) (hl : l.length ≤ 1000000) : MCalls E.P 68 (encNote zn) (noteL l) [.int .i64 (a : Int), .int .i64 (b : Int), .int .i64 (n : Int), .fn 24 []] (noteL (swapN l a b n)) := by
  refine MCalls.intro E_ok Tryd.func68 rfl rfl Tryd.ntmps68 Tryd.results68 (Nat.le_of_ble_eq_true rfl) (by simp) fun hok base S0 w0 vv => ?_
  -- region 0
  refine AWp.rseq E_ok [0, 1, 2, 3, 4, 10, 13, 38] fun K hK => ?_
  simp [swapN]
  repeat refine ⟨by first | omega | assumption | (simp only [maxLen]; omega) | (intros; omega) | decide, ?_⟩
  refine hK _ ?_
  clear hK K
  refine AWp.block ?_
  refine AWp.loop (ι := { i : Nat // i ≤ n }) (fun x => match x with | ⟨i, hi⟩ => [(0, T.alias (38, 0)), (1, T.val (D.int IntKind.i64 ↑a)), (2, T.val (D.int IntKind.i64 ↑b)), (3, T.val (D.int IntKind.i64 ↑n)), (4, T.val (D.fn 24 [])), (10, T.val (.int .i64 (i : Int))), (38, T.lent vv true (encNote zn) (noteL (swapN l a b i)))]) (fun x => match x with | ⟨i, hi⟩ => n - i) ⟨0, by omega⟩ ?_ ?_
  · simp [Weak, TW, swapN]
  rintro ⟨i, hi⟩
  simp only
  try simp only at hi
  refine AWp.seq ?_
  -- region 1
  refine AWp.rseq E_ok [0, 1, 2, 3, 4, 10, 13, 38] fun K hK => ?_
  simp [swapN]
  repeat refine ⟨by first | omega | assumption | (simp only [maxLen]; omega) | (intros; omega) | decide, ?_⟩
  refine hK _ ?_
  clear hK K
  refine AWp.cond rfl (fun h13 => ?_) (fun h13 => ?_)
  · try simp at h13
    have hin : i < n := by omega
    obtain ⟨p, hp⟩ : ∃ p, p = a + i := ⟨_, rfl⟩
    obtain ⟨q, hq⟩ : ∃ q, q = b + i := ⟨_, rfl⟩
    obtain ⟨x, hx⟩ : ∃ x, (swapN l a b i)[p]? = some x := ⟨_, List.getElem?_eq_getElem (by simp; omega)⟩
    obtain ⟨y, hy⟩ : ∃ y, (swapN l a b i)[q]? = some y := ⟨_, List.getElem?_eq_getElem (by simp; omega)⟩
    have ex := noteL_get hx
    have ey := noteL_get hy
    have em := noteL_mid (i := p) (z := y) (by omega) hy
    have es := noteL_swap hx hy
    have wa : IntKind.i64.wrap ((a : Int) + (i : Int)) = (p : Int) := by rw [wrap_i64 (by omega) (by omega)]; omega
    have wb : IntKind.i64.wrap ((b : Int) + (i : Int)) = (q : Int) := by rw [wrap_i64 (by omega) (by omega)]; omega
    have hpl : p < l.length := by omega
    have hql : q < l.length := by omega
    refine AWp.skip ?_
    repeat first | refine thenN ?_ | refine thenX ?_ | refine thenR ?_ | refine blockN ?_ | refine blockR ?_ | refine blockX ?_ | refine blockM rfl ?_
    refine AWp.seq ?_
    refine AWp.block ?_
    -- region 3, every order
    refine AWp.rendS E_ok mixed [0, 1, 2, 3, 4, 10, 13, 38] (n := 24) (l := #[false, false, false, false, false, false, false, false, false, false, false, false, false, false, false, false, false, false, false, false, false, false, false, false]) rfl (by kernel_rfl) fun K hK => ?_
    suffices hnext : K [(0, T.alias (38, 0)), (1, T.val (D.int IntKind.i64 ↑a)), (2, T.val (D.int IntKind.i64 ↑b)), (3, T.val (D.int IntKind.i64 ↑n)), (4, T.val (D.fn (24 : FuncId) [])), (10, T.val (D.int IntKind.i64 ↑i)), (13, T.val (D.bool true)), (38, T.lent vv true (encNote zn) (noteL (swapA (swapN l a b i) p q)))] by
      refine contS.cut 0 #[true, true, true, true, true, true, true, true, true, true, true, true, true, true, true, true, true, true, true, true, true, true, true, true] [(0, T.alias (38, 0)), (1, T.val (D.int IntKind.i64 ↑a)), (2, T.val (D.int IntKind.i64 ↑b)), (3, T.val (D.int IntKind.i64 ↑n)), (4, T.val (D.fn (24 : FuncId) [])), (10, T.val (D.int IntKind.i64 ↑i)), (13, T.val (D.bool true)), (38, T.lent vv true (encNote zn) (noteL (swapA (swapN l a b i) p q)))] ?_ fun h_13_19_21_23_ => ?_
      · skip
        refine coreS.nil (by kernel_rfl) ?_
        simpa [swapN] using hnext
      refine contS.cut 1 #[true, true, true, true, true, true, true, true, true, true, true, true, true, true, true, true, true, true, true, true, true, true, true, false] [(0, T.alias (38, 0)), (1, T.val (D.int IntKind.i64 ↑a)), (2, T.val (D.int IntKind.i64 ↑b)), (3, T.val (D.int IntKind.i64 ↑n)), (4, T.val (D.fn (24 : FuncId) [])), (10, T.val (D.int IntKind.i64 ↑i)), (13, T.val (D.bool true)), (35, T.val (D.agg [D.int IntKind.i64 x.kind, D.int IntKind.i64 x.patron, D.int IntKind.i64 x.item, D.int IntKind.i64 x.day])), (37, T.optr (38, 0) q 0), (38, T.lent vv true (encNote zn) ((noteL (swapN l a b i)).set p (D.agg [D.int IntKind.i64 y.kind, D.int IntKind.i64 y.patron, D.int IntKind.i64 y.item, D.int IntKind.i64 y.day])))] ?_ fun h_13_19_21 => ?_
      · skip
        refine coreS.step E_ok [23] (by kernel_rfl) (by simp) ?_
        refine anyS.cons rfl ?_ ?_
        · skip
          simp [swapN, h13, ex, ey, em, es, wa, wb]
          repeat refine ⟨by first | omega | assumption | (simp only [maxLen]; omega) | (intros; omega) | decide, ?_⟩
          exact contS.mk (by simp [Weak, TW, T.plain, swapN]) h_13_19_21_23_ (by kernel_rfl)
        exact anyS.nil
      refine contS.cut 3 #[true, true, true, true, true, true, true, true, true, true, true, true, true, true, true, true, true, true, true, true, true, false, false, false] [(0, T.alias (38, 0)), (1, T.val (D.int IntKind.i64 ↑a)), (2, T.val (D.int IntKind.i64 ↑b)), (3, T.val (D.int IntKind.i64 ↑n)), (4, T.val (D.fn (24 : FuncId) [])), (10, T.val (D.int IntKind.i64 ↑i)), (13, T.val (D.bool true)), (20, T.alias (38, 0)), (23, T.val (D.int IntKind.i64 ↑q)), (29, T.val (D.agg [D.int IntKind.i64 y.kind, D.int IntKind.i64 y.patron, D.int IntKind.i64 y.item, D.int IntKind.i64 y.day])), (35, T.val (D.agg [D.int IntKind.i64 x.kind, D.int IntKind.i64 x.patron, D.int IntKind.i64 x.item, D.int IntKind.i64 x.day])), (36, T.optr (38, 0) p 0), (38, T.lent vv true (encNote zn) (noteL (swapN l a b i)))] ?_ fun h_13_19 => ?_
      · skip
        refine coreS.step E_ok [21] (by kernel_rfl) (by simp) ?_
        refine anyS.cons rfl ?_ ?_
        · skip
          simp [swapN, h13, ex, ey, em, es, wa, wb]
          repeat refine ⟨by first | omega | assumption | (simp only [maxLen]; omega) | (intros; omega) | decide, ?_⟩
          refine contS.now (f' := 2) (l' := #[true, true, true, true, true, true, true, true, true, true, true, true, true, true, true, true, true, true, true, true, true, true, false, false]) ?_ rfl (by kernel_rfl)
          refine coreS.dry E_ok (by kernel_rfl) 22 rfl rfl (by kernel_rfl) (by kernel_rfl) ?_
          simp [swapN, h13, ex, ey, em, es, wa, wb]
          repeat refine ⟨by first | omega | assumption | (simp only [maxLen]; omega) | (intros; omega) | decide, ?_⟩
          exact contS.mk (by simp [Weak, TW, T.plain, swapN]) h_13_19_21 (by kernel_rfl)
        exact anyS.nil
      refine contS.cut 5 #[true, true, true, true, true, true, true, true, true, true, true, true, true, true, true, true, true, true, true, false, false, false, false, false] [(0, T.alias (38, 0)), (1, T.val (D.int IntKind.i64 ↑a)), (2, T.val (D.int IntKind.i64 ↑b)), (3, T.val (D.int IntKind.i64 ↑n)), (4, T.val (D.fn (24 : FuncId) [])), (10, T.val (D.int IntKind.i64 ↑i)), (13, T.val (D.bool true)), (16, T.alias (38, 0)), (19, T.val (D.int IntKind.i64 ↑p)), (20, T.alias (38, 0)), (23, T.val (D.int IntKind.i64 ↑q)), (29, T.val (D.agg [D.int IntKind.i64 y.kind, D.int IntKind.i64 y.patron, D.int IntKind.i64 y.item, D.int IntKind.i64 y.day])), (34, T.optr (38, 0) p 0), (38, T.lent vv true (encNote zn) (noteL (swapN l a b i)))] ?_ fun h_13 => ?_
      · skip
        refine coreS.step E_ok [19] (by kernel_rfl) (by simp) ?_
        refine anyS.cons rfl ?_ ?_
        · skip
          simp [swapN, h13, ex, ey, em, es, wa, wb]
          repeat refine ⟨by first | omega | assumption | (simp only [maxLen]; omega) | (intros; omega) | decide, ?_⟩
          refine contS.now (f' := 4) (l' := #[true, true, true, true, true, true, true, true, true, true, true, true, true, true, true, true, true, true, true, true, false, false, false, false]) ?_ rfl (by kernel_rfl)
          refine coreS.dry E_ok (by kernel_rfl) 20 rfl rfl (by kernel_rfl) (by kernel_rfl) ?_
          simp [swapN, h13, ex, ey, em, es, wa, wb]
          repeat refine ⟨by first | omega | assumption | (simp only [maxLen]; omega) | (intros; omega) | decide, ?_⟩
          exact contS.mk (by simp [Weak, TW, T.plain, swapN]) h_13_19 (by kernel_rfl)
        exact anyS.nil
      refine contS.cut 5 #[true, true, true, true, true, true, true, true, true, true, true, true, true, false, true, true, true, true, true, true, false, false, false, false] [(0, T.alias (38, 0)), (1, T.val (D.int IntKind.i64 ↑a)), (2, T.val (D.int IntKind.i64 ↑b)), (3, T.val (D.int IntKind.i64 ↑n)), (4, T.val (D.fn (24 : FuncId) [])), (10, T.val (D.int IntKind.i64 ↑i)), (13, T.val (D.bool true)), (16, T.alias (38, 0)), (19, T.val (D.int IntKind.i64 ↑p)), (20, T.alias (38, 0)), (23, T.val (D.int IntKind.i64 ↑q)), (28, T.optr (38, 0) q 0), (35, T.val (D.agg [D.int IntKind.i64 x.kind, D.int IntKind.i64 x.patron, D.int IntKind.i64 x.item, D.int IntKind.i64 x.day])), (38, T.lent vv true (encNote zn) (noteL (swapN l a b i)))] ?_ fun h_19 => ?_
      · skip
        refine coreS.step E_ok [13] (by kernel_rfl) (by simp) ?_
        refine anyS.cons rfl ?_ ?_
        · skip
          simp [swapN, h13, ex, ey, em, es, wa, wb]
          repeat refine ⟨by first | omega | assumption | (simp only [maxLen]; omega) | (intros; omega) | decide, ?_⟩
          refine contS.now (f' := 4) (l' := #[true, true, true, true, true, true, true, true, true, true, true, true, true, true, true, true, true, true, true, true, false, false, false, false]) ?_ rfl (by kernel_rfl)
          refine coreS.dry E_ok (by kernel_rfl) 20 rfl rfl (by kernel_rfl) (by kernel_rfl) ?_
          simp [swapN, h13, ex, ey, em, es, wa, wb]
          repeat refine ⟨by first | omega | assumption | (simp only [maxLen]; omega) | (intros; omega) | decide, ?_⟩
          exact contS.mk (by simp [Weak, TW, T.plain, swapN]) h_13_19 (by kernel_rfl)
        exact anyS.nil
      refine contS.cut 6 #[true, true, true, true, true, true, true, true, true, true, true, true, true, false, true, true, true, true, true, false, false, false, false, false] [(0, T.alias (38, 0)), (1, T.val (D.int IntKind.i64 ↑a)), (2, T.val (D.int IntKind.i64 ↑b)), (3, T.val (D.int IntKind.i64 ↑n)), (4, T.val (D.fn (24 : FuncId) [])), (10, T.val (D.int IntKind.i64 ↑i)), (13, T.val (D.bool true)), (16, T.alias (38, 0)), (19, T.val (D.int IntKind.i64 ↑p)), (20, T.alias (38, 0)), (23, T.val (D.int IntKind.i64 ↑q)), (28, T.optr (38, 0) q 0), (34, T.optr (38, 0) p 0), (38, T.lent vv true (encNote zn) (noteL (swapN l a b i)))] ?_ fun h_ => ?_
      · skip
        refine coreS.step E_ok [13, 19] (by kernel_rfl) (by simp) ?_
        refine anyS.cons rfl ?_ ?_
        · skip
          simp [swapN, h13, ex, ey, em, es, wa, wb]
          repeat refine ⟨by first | omega | assumption | (simp only [maxLen]; omega) | (intros; omega) | decide, ?_⟩
          exact contS.mk (by simp [Weak, TW, T.plain, swapN]) h_13 (by kernel_rfl)
        refine anyS.cons rfl ?_ ?_
        · skip
          simp [swapN, h13, ex, ey, em, es, wa, wb]
          repeat refine ⟨by first | omega | assumption | (simp only [maxLen]; omega) | (intros; omega) | decide, ?_⟩
          exact contS.mk (by simp [Weak, TW, T.plain, swapN]) h_19 (by kernel_rfl)
        exact anyS.nil
      refine contS.now (f' := 24) (l' := #[false, false, false, false, false, false, false, false, false, false, false, false, false, false, false, false, false, false, false, false, false, false, false, false]) ?_ rfl (by kernel_rfl)
      refine coreS.dry E_ok (by kernel_rfl) 0 rfl rfl (by kernel_rfl) (by kernel_rfl) ?_
      simp [swapN, h13, ex, ey, em, es, wa, wb]
      repeat refine ⟨by first | omega | assumption | (simp only [maxLen]; omega) | (intros; omega) | decide, ?_⟩
      refine contS.now (f' := 23) (l' := #[true, false, false, false, false, false, false, false, false, false, false, false, false, false, false, false, false, false, false, false, false, false, false, false]) ?_ rfl (by kernel_rfl)
      refine coreS.dry E_ok (by kernel_rfl) 1 rfl rfl (by kernel_rfl) (by kernel_rfl) ?_
      simp [swapN, h13, ex, ey, em, es, wa, wb]
      repeat refine ⟨by first | omega | assumption | (simp only [maxLen]; omega) | (intros; omega) | decide, ?_⟩
      refine contS.now (f' := 22) (l' := #[true, true, false, false, false, false, false, false, false, false, false, false, false, false, false, false, false, false, false, false, false, false, false, false]) ?_ rfl (by kernel_rfl)
      refine coreS.dry E_ok (by kernel_rfl) 2 rfl rfl (by kernel_rfl) (by kernel_rfl) ?_
      simp [swapN, h13, ex, ey, em, es, wa, wb]
      repeat refine ⟨by first | omega | assumption | (simp only [maxLen]; omega) | (intros; omega) | decide, ?_⟩
      refine contS.now (f' := 21) (l' := #[true, true, true, false, false, false, false, false, false, false, false, false, false, false, false, false, false, false, false, false, false, false, false, false]) ?_ rfl (by kernel_rfl)
      refine coreS.dry E_ok (by kernel_rfl) 3 rfl rfl (by kernel_rfl) (by kernel_rfl) ?_
      simp [swapN, h13, ex, ey, em, es, wa, wb]
      repeat refine ⟨by first | omega | assumption | (simp only [maxLen]; omega) | (intros; omega) | decide, ?_⟩
      refine contS.now (f' := 20) (l' := #[true, true, true, true, false, false, false, false, false, false, false, false, false, false, false, false, false, false, false, false, false, false, false, false]) ?_ rfl (by kernel_rfl)
      refine coreS.dry E_ok (by kernel_rfl) 4 rfl rfl (by kernel_rfl) (by kernel_rfl) ?_
      simp [swapN, h13, ex, ey, em, es, wa, wb]
      repeat refine ⟨by first | omega | assumption | (simp only [maxLen]; omega) | (intros; omega) | decide, ?_⟩
      refine contS.now (f' := 19) (l' := #[true, true, true, true, true, false, false, false, false, false, false, false, false, false, false, false, false, false, false, false, false, false, false, false]) ?_ rfl (by kernel_rfl)
      refine coreS.dry E_ok (by kernel_rfl) 5 rfl rfl (by kernel_rfl) (by kernel_rfl) ?_
      simp [swapN, h13, ex, ey, em, es, wa, wb]
      repeat refine ⟨by first | omega | assumption | (simp only [maxLen]; omega) | (intros; omega) | decide, ?_⟩
      refine contS.now (f' := 18) (l' := #[true, true, true, true, true, true, false, false, false, false, false, false, false, false, false, false, false, false, false, false, false, false, false, false]) ?_ rfl (by kernel_rfl)
      refine coreS.dry E_ok (by kernel_rfl) 6 rfl rfl (by kernel_rfl) (by kernel_rfl) ?_
      simp [swapN, h13, ex, ey, em, es, wa, wb]
      repeat refine ⟨by first | omega | assumption | (simp only [maxLen]; omega) | (intros; omega) | decide, ?_⟩
      refine contS.now (f' := 17) (l' := #[true, true, true, true, true, true, true, false, false, false, false, false, false, false, false, false, false, false, false, false, false, false, false, false]) ?_ rfl (by kernel_rfl)
      refine coreS.dry E_ok (by kernel_rfl) 7 rfl rfl (by kernel_rfl) (by kernel_rfl) ?_
      simp [swapN, h13, ex, ey, em, es, wa, wb]
      repeat refine ⟨by first | omega | assumption | (simp only [maxLen]; omega) | (intros; omega) | decide, ?_⟩
      refine contS.now (f' := 16) (l' := #[true, true, true, true, true, true, true, true, false, false, false, false, false, false, false, false, false, false, false, false, false, false, false, false]) ?_ rfl (by kernel_rfl)
      refine coreS.dry E_ok (by kernel_rfl) 8 rfl rfl (by kernel_rfl) (by kernel_rfl) ?_
      simp [swapN, h13, ex, ey, em, es, wa, wb]
      repeat refine ⟨by first | omega | assumption | (simp only [maxLen]; omega) | (intros; omega) | decide, ?_⟩
      refine contS.now (f' := 15) (l' := #[true, true, true, true, true, true, true, true, true, false, false, false, false, false, false, false, false, false, false, false, false, false, false, false]) ?_ rfl (by kernel_rfl)
      refine coreS.dry E_ok (by kernel_rfl) 9 rfl rfl (by kernel_rfl) (by kernel_rfl) ?_
      simp [swapN, h13, ex, ey, em, es, wa, wb]
      repeat refine ⟨by first | omega | assumption | (simp only [maxLen]; omega) | (intros; omega) | decide, ?_⟩
      refine contS.now (f' := 14) (l' := #[true, true, true, true, true, true, true, true, true, true, false, false, false, false, false, false, false, false, false, false, false, false, false, false]) ?_ rfl (by kernel_rfl)
      refine coreS.dry E_ok (by kernel_rfl) 10 rfl rfl (by kernel_rfl) (by kernel_rfl) ?_
      simp [swapN, h13, ex, ey, em, es, wa, wb]
      repeat refine ⟨by first | omega | assumption | (simp only [maxLen]; omega) | (intros; omega) | decide, ?_⟩
      refine contS.now (f' := 13) (l' := #[true, true, true, true, true, true, true, true, true, true, true, false, false, false, false, false, false, false, false, false, false, false, false, false]) ?_ rfl (by kernel_rfl)
      refine coreS.dry E_ok (by kernel_rfl) 11 rfl rfl (by kernel_rfl) (by kernel_rfl) ?_
      simp [swapN, h13, ex, ey, em, es, wa, wb]
      repeat refine ⟨by first | omega | assumption | (simp only [maxLen]; omega) | (intros; omega) | decide, ?_⟩
      refine contS.now (f' := 12) (l' := #[true, true, true, true, true, true, true, true, true, true, true, true, false, false, false, false, false, false, false, false, false, false, false, false]) ?_ rfl (by kernel_rfl)
      refine coreS.dry E_ok (by kernel_rfl) 12 rfl rfl (by kernel_rfl) (by kernel_rfl) ?_
      simp [swapN, h13, ex, ey, em, es, wa, wb]
      repeat refine ⟨by first | omega | assumption | (simp only [maxLen]; omega) | (intros; omega) | decide, ?_⟩
      refine contS.now (f' := 11) (l' := #[true, true, true, true, true, true, true, true, true, true, true, true, true, false, false, false, false, false, false, false, false, false, false, false]) ?_ rfl (by kernel_rfl)
      refine coreS.dry E_ok (by kernel_rfl) 14 rfl rfl (by kernel_rfl) (by kernel_rfl) ?_
      simp [swapN, h13, ex, ey, em, es, wa, wb]
      repeat refine ⟨by first | omega | assumption | (simp only [maxLen]; omega) | (intros; omega) | decide, ?_⟩
      refine contS.now (f' := 10) (l' := #[true, true, true, true, true, true, true, true, true, true, true, true, true, false, true, false, false, false, false, false, false, false, false, false]) ?_ rfl (by kernel_rfl)
      refine coreS.dry E_ok (by kernel_rfl) 15 rfl rfl (by kernel_rfl) (by kernel_rfl) ?_
      simp [swapN, h13, ex, ey, em, es, wa, wb]
      repeat refine ⟨by first | omega | assumption | (simp only [maxLen]; omega) | (intros; omega) | decide, ?_⟩
      refine contS.now (f' := 9) (l' := #[true, true, true, true, true, true, true, true, true, true, true, true, true, false, true, true, false, false, false, false, false, false, false, false]) ?_ rfl (by kernel_rfl)
      refine coreS.dry E_ok (by kernel_rfl) 16 rfl rfl (by kernel_rfl) (by kernel_rfl) ?_
      simp [swapN, h13, ex, ey, em, es, wa, wb]
      repeat refine ⟨by first | omega | assumption | (simp only [maxLen]; omega) | (intros; omega) | decide, ?_⟩
      refine contS.now (f' := 8) (l' := #[true, true, true, true, true, true, true, true, true, true, true, true, true, false, true, true, true, false, false, false, false, false, false, false]) ?_ rfl (by kernel_rfl)
      refine coreS.dry E_ok (by kernel_rfl) 17 rfl rfl (by kernel_rfl) (by kernel_rfl) ?_
      simp [swapN, h13, ex, ey, em, es, wa, wb]
      repeat refine ⟨by first | omega | assumption | (simp only [maxLen]; omega) | (intros; omega) | decide, ?_⟩
      refine contS.now (f' := 7) (l' := #[true, true, true, true, true, true, true, true, true, true, true, true, true, false, true, true, true, true, false, false, false, false, false, false]) ?_ rfl (by kernel_rfl)
      refine coreS.dry E_ok (by kernel_rfl) 18 rfl rfl (by kernel_rfl) (by kernel_rfl) ?_
      simp [swapN, h13, ex, ey, em, es, wa, wb]
      repeat refine ⟨by first | omega | assumption | (simp only [maxLen]; omega) | (intros; omega) | decide, ?_⟩
      exact contS.mk (by simp [Weak, TW, T.plain, swapN]) h_ (by kernel_rfl)
    refine hK _ ?_
    clear hK K
    repeat first | refine thenN ?_ | refine thenX ?_ | refine thenR ?_ | refine blockN ?_ | refine blockR ?_ | refine blockX ?_ | refine blockM rfl ?_
    -- region 2
    refine AWp.rend E_ok [0, 1, 2, 3, 4, 10, 13, 38] fun K hK => ?_
    simp [swapN, h13, ex, ey, em, es, wa, wb]
    repeat refine ⟨by first | omega | assumption | (simp only [maxLen]; omega) | (intros; omega) | decide, ?_⟩
    refine hK _ ?_
    clear hK K
    repeat first | refine thenN ?_ | refine thenX ?_ | refine thenR ?_ | refine blockN ?_ | refine blockR ?_ | refine blockX ?_ | refine blockM rfl ?_
    have wi : IntKind.i64.wrap ((i : Int) + 1) = (i : Int) + 1 := wrap_i64 (by omega) (by omega)
    refine ⟨⟨i + 1, by omega⟩, ?_, by dsimp only; omega⟩
    simp [Weak, TW, swapN, hp, hq, wi]
  · try simp at h13
    obtain rfl : i = n := by omega
    refine AWp.exit ?_
    repeat first | refine thenN ?_ | refine thenX ?_ | refine thenR ?_ | refine blockN ?_ | refine blockR ?_ | refine blockX ?_ | refine blockM rfl ?_
    simp
end Go.Proofs.YtjpjndfdncalfaaDoor
