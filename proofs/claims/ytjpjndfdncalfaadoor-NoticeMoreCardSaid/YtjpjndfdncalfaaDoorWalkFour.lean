/-
  What the functions compute that the statement reaches: contracts, and the plain laws between them. Conditions stand at each theorem.
-/
import Derived.Test.YtjpjndfdncalfaaDoorWalkThree
set_option linter.unusedVariables false
set_option linter.unusedSimpArgs false
set_option maxRecDepth 100000
set_option linter.unusedSimpArgs false
set_option linter.unusedVariables false
namespace Go.Proofs.YtjpjndfdncalfaaDoor
open Go Ab Pl
theorem slices_rotateCmpFunc_api_Notice (l : List Note) (a m b : Nat) (h1 : a < m) (h2 : m < b) (h3 : b ≤ l.length) (hl : l.length ≤ 1000000) : MCalls E.P 56 (encNote zn) (noteL l) [.int .i64 (a : Int), .int .i64 (m : Int), .int .i64 (b : Int), .fn 24 []] (noteL (rotG l m (m - a) (b - m))) := by
  refine MCalls.intro E_ok Tryd.func56 rfl rfl Tryd.ntmps56 Tryd.results56 (Nat.le_of_ble_eq_true rfl) (by simp) fun hok base S0 w0 vv => ?_
  obtain ⟨i0, hi0⟩ : ∃ z, z = m - a := ⟨_, rfl⟩
  obtain ⟨j0, hj0⟩ : ∃ z, z = b - m := ⟨_, rfl⟩
  have w1 : IntKind.i64.wrap ((m : Int) - (a : Int)) = (i0 : Int) := by rw [wrap_i64 (by omega) (by omega)]; omega
  have w2 : IntKind.i64.wrap ((b : Int) - (m : Int)) = (j0 : Int) := by rw [wrap_i64 (by omega) (by omega)]; omega
  -- region 0
  refine AWp.rseq E_ok [0, 1, 2, 3, 4, 10, 11, 20, 23, 58] fun K hK => ?_
  simp [w1, w2]
  repeat refine ⟨by first | omega | assumption | (simp only [maxLen]; omega) | (intros; omega) | decide, ?_⟩
  refine hK _ ?_
  clear hK K
  -- region 1
  refine AWp.rseq E_ok [0, 1, 2, 3, 4, 10, 11, 20, 23, 58] fun K hK => ?_
  simp [w1, w2]
  repeat refine ⟨by first | omega | assumption | (simp only [maxLen]; omega) | (intros; omega) | decide, ?_⟩
  refine hK _ ?_
  clear hK K
  refine AWp.seq ?_
  refine AWp.block ?_
  refine AWp.loop (ι := { y : List Note × Nat × Nat // y.1.length = l.length ∧ 0 < y.2.1 ∧ 0 < y.2.2 ∧ a + y.2.1 ≤ m ∧ m + y.2.2 ≤ b ∧ rotG y.1 m y.2.1 y.2.2 = rotG l m (m - a) (b - m) }) (fun x => match x with | ⟨⟨l1, i, j⟩, hll, hi, hj, hia, hjb, heq⟩ => [(0, T.alias (58, 0)), (1, T.val (D.int IntKind.i64 ↑a)), (2, T.val (D.int IntKind.i64 ↑m)), (3, T.val (D.int IntKind.i64 ↑b)), (4, T.val (D.fn 24 [])), (10, T.val (.int .i64 (i : Int))), (11, T.val (.int .i64 (j : Int))), (58, T.lent vv true (encNote zn) (noteL l1))]) (fun x => match x with | ⟨⟨l1, i, j⟩, hll, hi, hj, hia, hjb, heq⟩ => i + j) ⟨(l, i0, j0), rfl, by dsimp only; omega, by dsimp only; omega, by dsimp only; omega, by dsimp only; omega, by dsimp only; rw [hi0, hj0]⟩ ?_ ?_
  · simp [Weak, TW]
  rintro ⟨⟨l1, i, j⟩, hll, hi, hj, hia, hjb, heq⟩
  simp only
  try simp only at hll
  try simp only at hi
  try simp only at hj
  try simp only at hia
  try simp only at hjb
  try simp only at heq
  refine AWp.seq ?_
  -- region 2
  refine AWp.rseq E_ok [0, 1, 2, 3, 4, 10, 11, 20, 23, 58] fun K hK => ?_
  simp [w1, w2]
  repeat refine ⟨by first | omega | assumption | (simp only [maxLen]; omega) | (intros; omega) | decide, ?_⟩
  refine hK _ ?_
  clear hK K
  refine AWp.cond rfl (fun h20 => ?_) (fun h20 => ?_)
  · try simp at h20
    have hij : i ≠ j := by omega
    obtain ⟨p, hp⟩ : ∃ z, z = m - i := ⟨_, rfl⟩
    have wp : IntKind.i64.wrap ((m : Int) - (i : Int)) = (p : Int) := by rw [wrap_i64 (by omega) (by omega)]; omega
    refine AWp.skip ?_
    repeat first | refine thenN ?_ | refine thenX ?_ | refine thenR ?_ | refine blockN ?_ | refine blockR ?_ | refine blockX ?_ | refine blockM rfl ?_
    refine AWp.block ?_
    -- region 3
    refine AWp.rseq E_ok [0, 1, 2, 3, 4, 10, 11, 20, 23, 58] fun K hK => ?_
    simp [w1, w2, wp]
    repeat refine ⟨by first | omega | assumption | (simp only [maxLen]; omega) | (intros; omega) | decide, ?_⟩
    refine hK _ ?_
    clear hK K
    refine AWp.cond rfl (fun h23 => ?_) (fun h23 => ?_)
    · try simp at h23
      obtain ⟨l2, e1⟩ : ∃ z, z = swapN l1 p m j := ⟨_, rfl⟩
      obtain ⟨i2, e2⟩ : ∃ z, z = i - j := ⟨_, rfl⟩
      obtain ⟨j2, e3⟩ : ∃ z, z = j := ⟨_, rfl⟩
      have hji : j < i := by omega
      have hro : rotG l2 m i2 j2 = rotG l1 m i j := by rw [e1, e2, e3, hp]; exact (rotG_gt hji hj).symm
      have wi : IntKind.i64.wrap ((i : Int) - (j : Int)) = (i2 : Int) := by rw [wrap_i64 (by omega) (by omega)]; omega
      -- region 4
      refine AWp.rseqL E_ok [0, 1, 2, 3, 4, 10, 11, 20, 23, 58] fun K hK => ?_
      simp [w1, w2, wp, wi]
      repeat refine ⟨by first | omega | assumption | (simp only [maxLen]; omega) | (intros; omega) | decide, ?_⟩
      refine meetL.of (slices_swapRangeCmpFunc_api_Notice l1 p m j (by omega) (by omega) (by omega)) ?_
      simp [w1, w2, wp, wi]
      repeat refine ⟨by first | omega | assumption | (simp only [maxLen]; omega) | (intros; omega) | decide, ?_⟩
      refine hK _ ?_
      clear hK K
      -- region 5
      refine AWp.rend E_ok [0, 1, 2, 3, 4, 10, 11, 20, 23, 58] fun K hK => ?_
      simp [w1, w2, wp, wi]
      repeat refine ⟨by first | omega | assumption | (simp only [maxLen]; omega) | (intros; omega) | decide, ?_⟩
      refine hK _ ?_
      clear hK K
      repeat first | refine thenN ?_ | refine thenX ?_ | refine thenR ?_ | refine blockN ?_ | refine blockR ?_ | refine blockX ?_ | refine blockM rfl ?_
      refine ⟨⟨(l2, i2, j2), by simp [e1, hll], by dsimp only; omega, by dsimp only; omega, by dsimp only; omega, by dsimp only; omega, hro.trans heq⟩, ?_, by dsimp only; omega⟩
      try dsimp only
      simp [Weak, TW, ← e1]
      try simp [e2, e3]
    · try simp at h23
      obtain ⟨q, hq⟩ : ∃ z, z = m + j - i := ⟨_, rfl⟩
      obtain ⟨l2, e1⟩ : ∃ z, z = swapN l1 p q i := ⟨_, rfl⟩
      obtain ⟨i2, e2⟩ : ∃ z, z = i := ⟨_, rfl⟩
      obtain ⟨j2, e3⟩ : ∃ z, z = j - i := ⟨_, rfl⟩
      have hji : i < j := by omega
      have hro : rotG l2 m i2 j2 = rotG l1 m i j := by rw [e1, e2, e3, hp, hq]; exact (rotG_lt hji hi).symm
      have w3 : IntKind.i64.wrap ((m : Int) + (j : Int)) = (m : Int) + (j : Int) := wrap_i64 (by omega) (by omega)
      have w4 : IntKind.i64.wrap ((m : Int) + (j : Int) - (i : Int)) = (q : Int) := by rw [wrap_i64 (by omega) (by omega)]; omega
      have wi : IntKind.i64.wrap ((j : Int) - (i : Int)) = (j2 : Int) := by rw [wrap_i64 (by omega) (by omega)]; omega
      -- region 6
      refine AWp.rseqL E_ok [0, 1, 2, 3, 4, 10, 11, 20, 23, 58] fun K hK => ?_
      simp [w1, w2, wp, w3, w4, wi]
      repeat refine ⟨by first | omega | assumption | (simp only [maxLen]; omega) | (intros; omega) | decide, ?_⟩
      refine meetL.of (slices_swapRangeCmpFunc_api_Notice l1 p q i (by omega) (by omega) (by omega)) ?_
      simp [w1, w2, wp, w3, w4, wi]
      repeat refine ⟨by first | omega | assumption | (simp only [maxLen]; omega) | (intros; omega) | decide, ?_⟩
      refine hK _ ?_
      clear hK K
      -- region 7
      refine AWp.rend E_ok [0, 1, 2, 3, 4, 10, 11, 20, 23, 58] fun K hK => ?_
      simp [w1, w2, wp, w3, w4, wi]
      repeat refine ⟨by first | omega | assumption | (simp only [maxLen]; omega) | (intros; omega) | decide, ?_⟩
      refine hK _ ?_
      clear hK K
      repeat first | refine thenN ?_ | refine thenX ?_ | refine thenR ?_ | refine blockN ?_ | refine blockR ?_ | refine blockX ?_ | refine blockM rfl ?_
      refine ⟨⟨(l2, i2, j2), by simp [e1, hll], by dsimp only; omega, by dsimp only; omega, by dsimp only; omega, by dsimp only; omega, hro.trans heq⟩, ?_, by dsimp only; omega⟩
      try dsimp only
      simp [Weak, TW, ← e1]
      try simp [e2, e3]
  · try simp at h20
    have hij : i = j := by omega
    subst hij
    obtain ⟨p, hp⟩ : ∃ z, z = m - i := ⟨_, rfl⟩
    have wp : IntKind.i64.wrap ((m : Int) - (i : Int)) = (p : Int) := by rw [wrap_i64 (by omega) (by omega)]; omega
    have hfin : swapN l1 p m i = rotG l m (m - a) (b - m) := by rw [← heq, rotG_eq, hp]
    refine AWp.exit ?_
    repeat first | refine thenN ?_ | refine thenX ?_ | refine thenR ?_ | refine blockN ?_ | refine blockR ?_ | refine blockX ?_ | refine blockM rfl ?_
    -- region 8
    refine AWp.rendL E_ok [0, 1, 2, 3, 4, 10, 11, 20, 23, 58] fun K hK => ?_
    simp [w1, w2, wp, hfin]
    repeat refine ⟨by first | omega | assumption | (simp only [maxLen]; omega) | (intros; omega) | decide, ?_⟩
    refine meetL.of (slices_swapRangeCmpFunc_api_Notice l1 p m i (by omega) (by omega) (by omega)) ?_
    simp [w1, w2, wp, hfin]
    repeat refine ⟨by first | omega | assumption | (simp only [maxLen]; omega) | (intros; omega) | decide, ?_⟩
    refine hK _ ?_
    clear hK K
    repeat first | refine thenN ?_ | refine thenX ?_ | refine thenR ?_ | refine blockN ?_ | refine blockR ?_ | refine blockX ?_ | refine blockM rfl ?_
    simp
end Go.Proofs.YtjpjndfdncalfaaDoor

set_option maxRecDepth 100000
set_option linter.unusedSimpArgs false
set_option linter.unusedVariables false
namespace Go.Proofs.YtjpjndfdncalfaaDoor
open Go Ab Pl
@[simp] noncomputable def zt48x1 : Array Bool := #[false, false, false, false, false, false, false, false, false, false, false, false, false, false, false, false, false, false]
@[simp] noncomputable def zt48x2 : Array Bool := #[true, true, true, true, true, true, true, true, true, true, true, true, true, true, false, false, false, false]
set_option maxHeartbeats 4000000 in
theorem slices_symMergeCmpFunc_api_Notice (f : Nat) (ih : ∀ (l : List Note) (a m b : Nat), a < m → m < b → b ≤ l.length → l.length ≤ 1000000 → b - a ≤ f → MCalls E.P 48 (encNote zn) (noteL l) [.int .i64 (a : Int), .int .i64 (m : Int), .int .i64 (b : Int), .fn 24 []] (noteL (symM f l a m b))) (l : List Note) (a m b : Nat) (h1 : a < m) (h2 : m < b) (h3 : b ≤ l.length) (hl : l.length ≤ 1000000) (hf : b - a ≤ f + 1) : MCalls E.P 48 (encNote zn) (noteL l) [.int .i64 (a : Int), .int .i64 (m : Int), .int .i64 (b : Int), .fn 24 []] (noteL (symM (f + 1) l a m b)) := by
  refine MCalls.intro E_ok Tryd.func48 rfl rfl Tryd.ntmps48 Tryd.results48 (Nat.le_of_ble_eq_true rfl) (by simp) fun hok base S0 w0 vv => ?_
  obtain ⟨q1, hq1⟩ : ∃ z, z = m - a := ⟨_, rfl⟩
  obtain ⟨q2, hq2⟩ : ∃ z, z = b - m := ⟨_, rfl⟩
  obtain ⟨d, hd⟩ : ∃ z, z = (a + b) / 2 := ⟨_, rfl⟩
  have wq1 : IntKind.i64.wrap ((m : Int) - (a : Int)) = (q1 : Int) := by rw [wrap_i64 (by omega) (by omega)]; omega
  have wq2 : IntKind.i64.wrap ((b : Int) - (m : Int)) = (q2 : Int) := by rw [wrap_i64 (by omega) (by omega)]; omega
  have hmd := half_eq (i := a) (j := b) (by omega)
  rw [← hd] at hmd
  refine AWp.seq ?_
  -- region 0
  refine AWp.rseq E_ok [0, 1, 2, 3, 4, 10, 11, 12, 13, 14, 15, 16, 17, 18, 19, 20, 21, 22, 23, 24, 28, 33, 50, 58, 80, 85, 103, 110, 140, 151, 171, 185, 199, 213, 220] fun K hK => ?_
  simp [wq1, wq2, hmd]
  repeat refine ⟨by first | omega | assumption | (simp only [maxLen]; omega) | (intros; omega) | decide, ?_⟩
  refine hK _ ?_
  clear hK K
  refine AWp.cond rfl (fun h28 => ?_) (fun h28 => ?_)
  · try simp at h28
    have hone : m - a = 1 := by omega
    -- region 1
    refine AWp.rseq E_ok [0, 1, 2, 3, 4, 10, 11, 12, 13, 14, 15, 16, 17, 18, 19, 20, 21, 22, 23, 24, 28, 33, 50, 58, 80, 85, 103, 110, 140, 151, 171, 185, 199, 213, 220] fun K hK => ?_
    simp [wq1, wq2, hmd]
    repeat refine ⟨by first | omega | assumption | (simp only [maxLen]; omega) | (intros; omega) | decide, ?_⟩
    refine hK _ ?_
    clear hK K
    -- region 2
    refine AWp.rseq E_ok [0, 1, 2, 3, 4, 10, 11, 12, 13, 14, 15, 16, 17, 18, 19, 20, 21, 22, 23, 24, 28, 33, 50, 58, 80, 85, 103, 110, 140, 151, 171, 185, 199, 213, 220] fun K hK => ?_
    simp [wq1, wq2, hmd]
    repeat refine ⟨by first | omega | assumption | (simp only [maxLen]; omega) | (intros; omega) | decide, ?_⟩
    refine hK _ ?_
    clear hK K
    refine AWp.seq ?_
    refine AWp.block ?_
    refine AWp.loop (ι := { y : Nat × Nat // m ≤ y.1 ∧ y.1 ≤ y.2 ∧ y.2 ≤ b ∧ bsF (fun h => ltA l h a) y.1 y.2 = bsF (fun h => ltA l h a) m b }) (fun x => match x with | ⟨⟨i, j⟩, hmi, hij, hjb, hbs⟩ => [(0, T.alias (220, 0)), (1, T.val (D.int IntKind.i64 ↑a)), (2, T.val (D.int IntKind.i64 ↑m)), (3, T.val (D.int IntKind.i64 ↑b)), (4, T.val (D.fn 24 [])), (10, T.val (.int .i64 (i : Int))), (11, T.val (.int .i64 (j : Int))), (220, T.lent vv true (encNote zn) (noteL l))]) (fun x => match x with | ⟨⟨i, j⟩, hmi, hij, hjb, hbs⟩ => j - i) ⟨(m, b), Nat.le_refl _, by dsimp only; omega, Nat.le_refl _, rfl⟩ ?_ ?_
    · simp [Weak, TW]
    rintro ⟨⟨i, j⟩, hmi, hij, hjb, hbs⟩
    simp only
    try simp only at hmi
    try simp only at hij
    try simp only at hjb
    try simp only at hbs
    refine AWp.seq ?_
    -- region 3
    refine AWp.rseq E_ok [0, 1, 2, 3, 4, 10, 11, 12, 13, 14, 15, 16, 17, 18, 19, 20, 21, 22, 23, 24, 28, 33, 50, 58, 80, 85, 103, 110, 140, 151, 171, 185, 199, 213, 220] fun K hK => ?_
    simp [wq1, wq2, hmd]
    repeat refine ⟨by first | omega | assumption | (simp only [maxLen]; omega) | (intros; omega) | decide, ?_⟩
    refine hK _ ?_
    clear hK K
    refine AWp.cond rfl (fun h33 => ?_) (fun h33 => ?_)
    · try simp at h33
      obtain ⟨h, hh⟩ : ∃ z : Nat, z = (i + j) / 2 := ⟨_, rfl⟩
      have hm := half_eq (i := i) (j := j) (by omega)
      rw [← hh] at hm
      obtain ⟨x, hx⟩ : ∃ x, l[h]? = some x := ⟨_, List.getElem?_eq_getElem (by omega)⟩
      obtain ⟨y, hy⟩ : ∃ y, l[a]? = some y := ⟨_, List.getElem?_eq_getElem (by omega)⟩
      have ex := noteL_get hx
      have ey := noteL_get hy
      have hc4 := cmpN_rng x y
      have hlt := ltA_eq hx hy
      refine AWp.skip ?_
      repeat first | refine thenN ?_ | refine thenX ?_ | refine thenR ?_ | refine blockN ?_ | refine blockR ?_ | refine blockX ?_ | refine blockM rfl ?_
      refine AWp.block ?_
      -- region 4
      refine AWp.rseq E_ok [0, 1, 2, 3, 4, 10, 11, 12, 13, 14, 15, 16, 17, 18, 19, 20, 21, 22, 23, 24, 28, 33, 50, 58, 80, 85, 103, 110, 140, 151, 171, 185, 199, 213, 220] fun K hK => ?_
      simp [wq1, wq2, hmd, hm, ex, ey]
      repeat refine ⟨by first | omega | assumption | (simp only [maxLen]; omega) | (intros; omega) | decide, ?_⟩
      refine hK _ ?_
      clear hK K
      -- region 5
      refine AWp.rseqQ E_ok mixed [0, 1, 2, 3, 4, 10, 11, 12, 13, 14, 15, 16, 17, 18, 19, 20, 21, 22, 23, 24, 28, 33, 50, 58, 80, 85, 103, 110, 140, 151, 171, 185, 199, 213, 220] (by kernel_rfl) fun K hK => ?_
      simp [wq1, wq2, hmd, hm, ex, ey]
      repeat refine ⟨by first | omega | assumption | (simp only [maxLen]; omega) | (intros; omega) | decide, ?_⟩
      refine meet.of (notice_Due_1 x y) ?_
      simp [wq1, wq2, hmd, hm, ex, ey]
      repeat refine ⟨by first | omega | assumption | (simp only [maxLen]; omega) | (intros; omega) | decide, ?_⟩
      refine hK _ ?_
      clear hK K
      refine AWp.cond rfl (fun h50 => ?_) (fun h50 => ?_)
      · try simp at h50
        obtain ⟨i2, e2⟩ : ∃ z, z = h + 1 := ⟨_, rfl⟩
        obtain ⟨j2, e3⟩ : ∃ z, z = j := ⟨_, rfl⟩
        have hb2 : bsF (fun h => ltA l h a) i2 j2 = bsF (fun h => ltA l h a) i j := by rw [e2, e3]; exact bsF_t (by omega) hh (by simp only [hlt]; exact decide_eq_true (by omega))
        have w2 : IntKind.i64.wrap ((h : Int) + 1) = (i2 : Int) := by rw [wrap_i64 (by omega) (by omega)]; omega
        -- region 6
        refine AWp.rend E_ok [0, 1, 2, 3, 4, 10, 11, 12, 13, 14, 15, 16, 17, 18, 19, 20, 21, 22, 23, 24, 28, 33, 50, 58, 80, 85, 103, 110, 140, 151, 171, 185, 199, 213, 220] fun K hK => ?_
        simp [wq1, wq2, hmd, hm, ex, ey, w2]
        repeat refine ⟨by first | omega | assumption | (simp only [maxLen]; omega) | (intros; omega) | decide, ?_⟩
        refine hK _ ?_
        clear hK K
        repeat first | refine thenN ?_ | refine thenX ?_ | refine thenR ?_ | refine blockN ?_ | refine blockR ?_ | refine blockX ?_ | refine blockM rfl ?_
        refine ⟨⟨(i2, j2), by dsimp only; omega, by dsimp only; omega, by dsimp only; omega, hb2.trans hbs⟩, ?_, by dsimp only; omega⟩
        try dsimp only
        simp [Weak, TW, e2, e3]
      · try simp at h50
        obtain ⟨i2, e2⟩ : ∃ z, z = i := ⟨_, rfl⟩
        obtain ⟨j2, e3⟩ : ∃ z, z = h := ⟨_, rfl⟩
        have hb2 : bsF (fun h => ltA l h a) i2 j2 = bsF (fun h => ltA l h a) i j := by rw [e2, e3]; exact bsF_f (by omega) hh (by simp only [hlt]; exact decide_eq_false (by omega))
        -- region 7
        refine AWp.rend E_ok [0, 1, 2, 3, 4, 10, 11, 12, 13, 14, 15, 16, 17, 18, 19, 20, 21, 22, 23, 24, 28, 33, 50, 58, 80, 85, 103, 110, 140, 151, 171, 185, 199, 213, 220] fun K hK => ?_
        simp [wq1, wq2, hmd, hm, ex, ey]
        repeat refine ⟨by first | omega | assumption | (simp only [maxLen]; omega) | (intros; omega) | decide, ?_⟩
        refine hK _ ?_
        clear hK K
        repeat first | refine thenN ?_ | refine thenX ?_ | refine thenR ?_ | refine blockN ?_ | refine blockR ?_ | refine blockX ?_ | refine blockM rfl ?_
        refine ⟨⟨(i2, j2), by dsimp only; omega, by dsimp only; omega, by dsimp only; omega, hb2.trans hbs⟩, ?_, by dsimp only; omega⟩
        try dsimp only
        simp [Weak, TW, e2, e3]
    · try simp at h33
      have hend : bsF (fun h => ltA l h a) m b = i := by rw [← hbs]; exact bsF_done (by omega)
      obtain ⟨i1, hi1⟩ : ∃ z, z = i - 1 := ⟨_, rfl⟩
      have w1 : IntKind.i64.wrap ((i : Int) - 1) = (i1 : Int) := by rw [wrap_i64 (by omega) (by omega)]; omega
      refine AWp.exit ?_
      repeat first | refine thenN ?_ | refine thenX ?_ | refine thenR ?_ | refine blockN ?_ | refine blockR ?_ | refine blockX ?_ | refine blockM rfl ?_
      refine AWp.seq ?_
      -- region 8
      refine AWp.rseq E_ok [0, 1, 2, 3, 4, 10, 11, 12, 13, 14, 15, 16, 17, 18, 19, 20, 21, 22, 23, 24, 28, 33, 50, 58, 80, 85, 103, 110, 140, 151, 171, 185, 199, 213, 220] fun K hK => ?_
      simp [wq1, wq2, hmd, w1]
      repeat refine ⟨by first | omega | assumption | (simp only [maxLen]; omega) | (intros; omega) | decide, ?_⟩
      refine hK _ ?_
      clear hK K
      refine AWp.block ?_
      refine AWp.loop (ι := { y : List Note × Nat // y.1.length = l.length ∧ a ≤ y.2 ∧ y.2 ≤ i1 ∧ upN y.1 y.2 (i1 - y.2) = upN l a (i1 - a) }) (fun x => match x with | ⟨⟨l1, t⟩, hll, hat, hti, hup⟩ => [(0, T.alias (220, 0)), (1, T.val (D.int IntKind.i64 ↑a)), (2, T.val (D.int IntKind.i64 ↑m)), (3, T.val (D.int IntKind.i64 ↑b)), (4, T.val (D.fn 24 [])), (10, T.val (D.int IntKind.i64 ↑i)), (13, T.val (.int .i64 (t : Int))), (220, T.lent vv true (encNote zn) (noteL l1))]) (fun x => match x with | ⟨⟨l1, t⟩, hll, hat, hti, hup⟩ => i1 - t) ⟨(l, a), rfl, Nat.le_refl _, by dsimp only; omega, rfl⟩ ?_ ?_
      · simp [Weak, TW]
      rintro ⟨⟨l1, t⟩, hll, hat, hti, hup⟩
      simp only
      try simp only at hll
      try simp only at hat
      try simp only at hti
      try simp only at hup
      refine AWp.seq ?_
      -- region 9
      refine AWp.rseq E_ok [0, 1, 2, 3, 4, 10, 11, 12, 13, 14, 15, 16, 17, 18, 19, 20, 21, 22, 23, 24, 28, 33, 50, 58, 80, 85, 103, 110, 140, 151, 171, 185, 199, 213, 220] fun K hK => ?_
      simp [wq1, wq2, hmd, w1]
      repeat refine ⟨by first | omega | assumption | (simp only [maxLen]; omega) | (intros; omega) | decide, ?_⟩
      refine hK _ ?_
      clear hK K
      refine AWp.cond rfl (fun h58 => ?_) (fun h58 => ?_)
      · try simp at h58
        obtain ⟨q, hq⟩ : ∃ z, z = t + 1 := ⟨_, rfl⟩
        have wq : IntKind.i64.wrap ((t : Int) + 1) = (q : Int) := by rw [wrap_i64 (by omega) (by omega)]; omega
        obtain ⟨x, hx⟩ : ∃ x, l1[t]? = some x := ⟨_, List.getElem?_eq_getElem (by omega)⟩
        obtain ⟨y, hy⟩ : ∃ y, l1[q]? = some y := ⟨_, List.getElem?_eq_getElem (by omega)⟩
        have ex := noteL_get hx
        have ey := noteL_get hy
        have em := noteL_mid (i := t) (z := y) (by omega) hy
        have es := noteL_swap hx hy
        refine AWp.skip ?_
        repeat first | refine thenN ?_ | refine thenX ?_ | refine thenR ?_ | refine blockN ?_ | refine blockR ?_ | refine blockX ?_ | refine blockM rfl ?_
        refine AWp.seq ?_
        refine AWp.block ?_
        -- region 11, every order
        refine AWp.rendS E_ok mixed [0, 1, 2, 3, 4, 10, 11, 12, 13, 14, 15, 16, 17, 18, 19, 20, 21, 22, 23, 24, 28, 33, 50, 58, 80, 85, 103, 110, 140, 151, 171, 185, 199, 213, 220] (n := 18) (l := (zt48x1)) rfl (by kernel_rfl) fun K hK => ?_
        suffices hnext : K [(0, T.alias (220, 0)), (1, T.val (D.int IntKind.i64 ↑a)), (2, T.val (D.int IntKind.i64 ↑m)), (3, T.val (D.int IntKind.i64 ↑b)), (4, T.val (D.fn (24 : FuncId) [])), (10, T.val (D.int IntKind.i64 ↑i)), (11, T.junk), (12, T.junk), (13, T.val (D.int IntKind.i64 ↑t)), (14, T.junk), (15, T.junk), (16, T.junk), (17, T.junk), (18, T.junk), (19, T.junk), (20, T.junk), (21, T.junk), (22, T.junk), (23, T.junk), (24, T.junk), (28, T.junk), (33, T.junk), (50, T.junk), (58, T.val (D.bool (decide (t < i1)))), (80, T.junk), (85, T.junk), (103, T.junk), (110, T.junk), (140, T.junk), (151, T.junk), (171, T.junk), (185, T.junk), (199, T.junk), (213, T.junk), (220, T.lent vv true (encNote zn) (noteL (swapA l1 t q)))] by
          refine contS.cut 0 #[true, true, true, true, true, true, true, true, true, true, true, true, true, true, true, true, true, true] [(0, T.alias (220, 0)), (1, T.val (D.int IntKind.i64 ↑a)), (2, T.val (D.int IntKind.i64 ↑m)), (3, T.val (D.int IntKind.i64 ↑b)), (4, T.val (D.fn (24 : FuncId) [])), (10, T.val (D.int IntKind.i64 ↑i)), (13, T.val (D.int IntKind.i64 ↑t)), (58, T.val (D.bool (decide (t < i1)))), (220, T.lent vv true (encNote zn) (noteL (swapA l1 t q)))] ?_ fun h_9_13_15_17_ => ?_
          · skip
            refine coreS.nil (by kernel_rfl) ?_
            simpa using hnext
          refine contS.cut 1 #[true, true, true, true, true, true, true, true, true, true, true, true, true, true, true, true, true, false] [(0, T.alias (220, 0)), (1, T.val (D.int IntKind.i64 ↑a)), (2, T.val (D.int IntKind.i64 ↑m)), (3, T.val (D.int IntKind.i64 ↑b)), (4, T.val (D.fn (24 : FuncId) [])), (10, T.val (D.int IntKind.i64 ↑i)), (13, T.val (D.int IntKind.i64 ↑t)), (58, T.val (D.bool (decide (t < i1)))), (74, T.val (D.agg [D.int IntKind.i64 x.kind, D.int IntKind.i64 x.patron, D.int IntKind.i64 x.item, D.int IntKind.i64 x.day])), (76, T.optr (220, 0) q 0), (220, T.lent vv true (encNote zn) ((noteL l1).set t (D.agg [D.int IntKind.i64 y.kind, D.int IntKind.i64 y.patron, D.int IntKind.i64 y.item, D.int IntKind.i64 y.day])))] ?_ fun h_9_13_15 => ?_
          · skip
            refine coreS.step E_ok [17] (by kernel_rfl) (by simp) ?_
            refine anyS.cons rfl ?_ ?_
            · skip
              simp [wq1, wq2, hmd, w1, ex, ey, em, es, wq]
              repeat refine ⟨by first | omega | assumption | (simp only [maxLen]; omega) | (intros; omega) | decide, ?_⟩
              exact contS.mk (by simp [Weak, TW, T.plain]) h_9_13_15_17_ (by kernel_rfl)
            exact anyS.nil
          refine contS.cut 3 #[true, true, true, true, true, true, true, true, true, true, true, true, true, true, true, false, false, false] [(0, T.alias (220, 0)), (1, T.val (D.int IntKind.i64 ↑a)), (2, T.val (D.int IntKind.i64 ↑m)), (3, T.val (D.int IntKind.i64 ↑b)), (4, T.val (D.fn (24 : FuncId) [])), (10, T.val (D.int IntKind.i64 ↑i)), (13, T.val (D.int IntKind.i64 ↑t)), (58, T.val (D.bool (decide (t < i1)))), (63, T.alias (220, 0)), (65, T.val (D.int IntKind.i64 ↑q)), (70, T.val (D.agg [D.int IntKind.i64 y.kind, D.int IntKind.i64 y.patron, D.int IntKind.i64 y.item, D.int IntKind.i64 y.day])), (74, T.val (D.agg [D.int IntKind.i64 x.kind, D.int IntKind.i64 x.patron, D.int IntKind.i64 x.item, D.int IntKind.i64 x.day])), (75, T.optr (220, 0) t 0), (220, T.lent vv true (encNote zn) (noteL l1))] ?_ fun h_9_13 => ?_
          · skip
            refine coreS.step E_ok [15] (by kernel_rfl) (by simp) ?_
            refine anyS.cons rfl ?_ ?_
            · skip
              simp [wq1, wq2, hmd, w1, ex, ey, em, es, wq]
              repeat refine ⟨by first | omega | assumption | (simp only [maxLen]; omega) | (intros; omega) | decide, ?_⟩
              refine contS.now (f' := 2) (l' := #[true, true, true, true, true, true, true, true, true, true, true, true, true, true, true, true, false, false]) ?_ rfl (by kernel_rfl)
              refine coreS.dry E_ok (by kernel_rfl) 16 rfl rfl (by kernel_rfl) (by kernel_rfl) ?_
              simp [wq1, wq2, hmd, w1, ex, ey, em, es, wq]
              repeat refine ⟨by first | omega | assumption | (simp only [maxLen]; omega) | (intros; omega) | decide, ?_⟩
              exact contS.mk (by simp [Weak, TW, T.plain]) h_9_13_15 (by kernel_rfl)
            exact anyS.nil
          refine contS.cut 5 #[true, true, true, true, true, true, true, true, true, true, true, true, true, false, false, false, false, false] [(0, T.alias (220, 0)), (1, T.val (D.int IntKind.i64 ↑a)), (2, T.val (D.int IntKind.i64 ↑m)), (3, T.val (D.int IntKind.i64 ↑b)), (4, T.val (D.fn (24 : FuncId) [])), (10, T.val (D.int IntKind.i64 ↑i)), (13, T.val (D.int IntKind.i64 ↑t)), (58, T.val (D.bool (decide (t < i1)))), (61, T.alias (220, 0)), (62, T.val (D.int IntKind.i64 ↑t)), (63, T.alias (220, 0)), (65, T.val (D.int IntKind.i64 ↑q)), (70, T.val (D.agg [D.int IntKind.i64 y.kind, D.int IntKind.i64 y.patron, D.int IntKind.i64 y.item, D.int IntKind.i64 y.day])), (73, T.optr (220, 0) t 0), (220, T.lent vv true (encNote zn) (noteL l1))] ?_ fun h_9 => ?_
          · skip
            refine coreS.step E_ok [13] (by kernel_rfl) (by simp) ?_
            refine anyS.cons rfl ?_ ?_
            · skip
              simp [wq1, wq2, hmd, w1, ex, ey, em, es, wq]
              repeat refine ⟨by first | omega | assumption | (simp only [maxLen]; omega) | (intros; omega) | decide, ?_⟩
              refine contS.now (f' := 4) (l' := (zt48x2)) ?_ rfl (by kernel_rfl)
              refine coreS.dry E_ok (by kernel_rfl) 14 rfl rfl (by kernel_rfl) (by kernel_rfl) ?_
              simp [wq1, wq2, hmd, w1, ex, ey, em, es, wq]
              repeat refine ⟨by first | omega | assumption | (simp only [maxLen]; omega) | (intros; omega) | decide, ?_⟩
              exact contS.mk (by simp [Weak, TW, T.plain]) h_9_13 (by kernel_rfl)
            exact anyS.nil
          refine contS.cut 5 #[true, true, true, true, true, true, true, true, true, false, true, true, true, true, false, false, false, false] [(0, T.alias (220, 0)), (1, T.val (D.int IntKind.i64 ↑a)), (2, T.val (D.int IntKind.i64 ↑m)), (3, T.val (D.int IntKind.i64 ↑b)), (4, T.val (D.fn (24 : FuncId) [])), (10, T.val (D.int IntKind.i64 ↑i)), (13, T.val (D.int IntKind.i64 ↑t)), (58, T.val (D.bool (decide (t < i1)))), (61, T.alias (220, 0)), (62, T.val (D.int IntKind.i64 ↑t)), (63, T.alias (220, 0)), (65, T.val (D.int IntKind.i64 ↑q)), (69, T.optr (220, 0) q 0), (74, T.val (D.agg [D.int IntKind.i64 x.kind, D.int IntKind.i64 x.patron, D.int IntKind.i64 x.item, D.int IntKind.i64 x.day])), (220, T.lent vv true (encNote zn) (noteL l1))] ?_ fun h_13 => ?_
          · skip
            refine coreS.step E_ok [9] (by kernel_rfl) (by simp) ?_
            refine anyS.cons rfl ?_ ?_
            · skip
              simp [wq1, wq2, hmd, w1, ex, ey, em, es, wq]
              repeat refine ⟨by first | omega | assumption | (simp only [maxLen]; omega) | (intros; omega) | decide, ?_⟩
              refine contS.now (f' := 4) (l' := (zt48x2)) ?_ rfl (by kernel_rfl)
              refine coreS.dry E_ok (by kernel_rfl) 14 rfl rfl (by kernel_rfl) (by kernel_rfl) ?_
              simp [wq1, wq2, hmd, w1, ex, ey, em, es, wq]
              repeat refine ⟨by first | omega | assumption | (simp only [maxLen]; omega) | (intros; omega) | decide, ?_⟩
              exact contS.mk (by simp [Weak, TW, T.plain]) h_9_13 (by kernel_rfl)
            exact anyS.nil
          refine contS.cut 6 #[true, true, true, true, true, true, true, true, true, false, true, true, true, false, false, false, false, false] [(0, T.alias (220, 0)), (1, T.val (D.int IntKind.i64 ↑a)), (2, T.val (D.int IntKind.i64 ↑m)), (3, T.val (D.int IntKind.i64 ↑b)), (4, T.val (D.fn (24 : FuncId) [])), (10, T.val (D.int IntKind.i64 ↑i)), (13, T.val (D.int IntKind.i64 ↑t)), (58, T.val (D.bool (decide (t < i1)))), (61, T.alias (220, 0)), (62, T.val (D.int IntKind.i64 ↑t)), (63, T.alias (220, 0)), (65, T.val (D.int IntKind.i64 ↑q)), (69, T.optr (220, 0) q 0), (73, T.optr (220, 0) t 0), (220, T.lent vv true (encNote zn) (noteL l1))] ?_ fun h_ => ?_
          · skip
            refine coreS.step E_ok [9, 13] (by kernel_rfl) (by simp) ?_
            refine anyS.cons rfl ?_ ?_
            · skip
              simp [wq1, wq2, hmd, w1, ex, ey, em, es, wq]
              repeat refine ⟨by first | omega | assumption | (simp only [maxLen]; omega) | (intros; omega) | decide, ?_⟩
              exact contS.mk (by simp [Weak, TW, T.plain]) h_9 (by kernel_rfl)
            refine anyS.cons rfl ?_ ?_
            · skip
              simp [wq1, wq2, hmd, w1, ex, ey, em, es, wq]
              repeat refine ⟨by first | omega | assumption | (simp only [maxLen]; omega) | (intros; omega) | decide, ?_⟩
              exact contS.mk (by simp [Weak, TW, T.plain]) h_13 (by kernel_rfl)
            exact anyS.nil
          refine contS.now (f' := 18) (l' := (zt48x1)) ?_ rfl (by kernel_rfl)
          refine coreS.dry E_ok (by kernel_rfl) 0 rfl rfl (by kernel_rfl) (by kernel_rfl) ?_
          simp [wq1, wq2, hmd, w1, ex, ey, em, es, wq]
          repeat refine ⟨by first | omega | assumption | (simp only [maxLen]; omega) | (intros; omega) | decide, ?_⟩
          refine contS.now (f' := 17) (l' := #[true, false, false, false, false, false, false, false, false, false, false, false, false, false, false, false, false, false]) ?_ rfl (by kernel_rfl)
          refine coreS.dry E_ok (by kernel_rfl) 1 rfl rfl (by kernel_rfl) (by kernel_rfl) ?_
          simp [wq1, wq2, hmd, w1, ex, ey, em, es, wq]
          repeat refine ⟨by first | omega | assumption | (simp only [maxLen]; omega) | (intros; omega) | decide, ?_⟩
          refine contS.now (f' := 16) (l' := #[true, true, false, false, false, false, false, false, false, false, false, false, false, false, false, false, false, false]) ?_ rfl (by kernel_rfl)
          refine coreS.dry E_ok (by kernel_rfl) 2 rfl rfl (by kernel_rfl) (by kernel_rfl) ?_
          simp [wq1, wq2, hmd, w1, ex, ey, em, es, wq]
          repeat refine ⟨by first | omega | assumption | (simp only [maxLen]; omega) | (intros; omega) | decide, ?_⟩
          refine contS.now (f' := 15) (l' := #[true, true, true, false, false, false, false, false, false, false, false, false, false, false, false, false, false, false]) ?_ rfl (by kernel_rfl)
          refine coreS.dry E_ok (by kernel_rfl) 3 rfl rfl (by kernel_rfl) (by kernel_rfl) ?_
          simp [wq1, wq2, hmd, w1, ex, ey, em, es, wq]
          repeat refine ⟨by first | omega | assumption | (simp only [maxLen]; omega) | (intros; omega) | decide, ?_⟩
          refine contS.now (f' := 14) (l' := #[true, true, true, true, false, false, false, false, false, false, false, false, false, false, false, false, false, false]) ?_ rfl (by kernel_rfl)
          refine coreS.dry E_ok (by kernel_rfl) 4 rfl rfl (by kernel_rfl) (by kernel_rfl) ?_
          simp [wq1, wq2, hmd, w1, ex, ey, em, es, wq]
          repeat refine ⟨by first | omega | assumption | (simp only [maxLen]; omega) | (intros; omega) | decide, ?_⟩
          refine contS.now (f' := 13) (l' := #[true, true, true, true, true, false, false, false, false, false, false, false, false, false, false, false, false, false]) ?_ rfl (by kernel_rfl)
          refine coreS.dry E_ok (by kernel_rfl) 5 rfl rfl (by kernel_rfl) (by kernel_rfl) ?_
          simp [wq1, wq2, hmd, w1, ex, ey, em, es, wq]
          repeat refine ⟨by first | omega | assumption | (simp only [maxLen]; omega) | (intros; omega) | decide, ?_⟩
          refine contS.now (f' := 12) (l' := #[true, true, true, true, true, true, false, false, false, false, false, false, false, false, false, false, false, false]) ?_ rfl (by kernel_rfl)
          refine coreS.dry E_ok (by kernel_rfl) 6 rfl rfl (by kernel_rfl) (by kernel_rfl) ?_
          simp [wq1, wq2, hmd, w1, ex, ey, em, es, wq]
          repeat refine ⟨by first | omega | assumption | (simp only [maxLen]; omega) | (intros; omega) | decide, ?_⟩
          refine contS.now (f' := 11) (l' := #[true, true, true, true, true, true, true, false, false, false, false, false, false, false, false, false, false, false]) ?_ rfl (by kernel_rfl)
          refine coreS.dry E_ok (by kernel_rfl) 7 rfl rfl (by kernel_rfl) (by kernel_rfl) ?_
          simp [wq1, wq2, hmd, w1, ex, ey, em, es, wq]
          repeat refine ⟨by first | omega | assumption | (simp only [maxLen]; omega) | (intros; omega) | decide, ?_⟩
          refine contS.now (f' := 10) (l' := #[true, true, true, true, true, true, true, true, false, false, false, false, false, false, false, false, false, false]) ?_ rfl (by kernel_rfl)
          refine coreS.dry E_ok (by kernel_rfl) 8 rfl rfl (by kernel_rfl) (by kernel_rfl) ?_
          simp [wq1, wq2, hmd, w1, ex, ey, em, es, wq]
          repeat refine ⟨by first | omega | assumption | (simp only [maxLen]; omega) | (intros; omega) | decide, ?_⟩
          refine contS.now (f' := 9) (l' := #[true, true, true, true, true, true, true, true, true, false, false, false, false, false, false, false, false, false]) ?_ rfl (by kernel_rfl)
          refine coreS.dry E_ok (by kernel_rfl) 10 rfl rfl (by kernel_rfl) (by kernel_rfl) ?_
          simp [wq1, wq2, hmd, w1, ex, ey, em, es, wq]
          repeat refine ⟨by first | omega | assumption | (simp only [maxLen]; omega) | (intros; omega) | decide, ?_⟩
          refine contS.now (f' := 8) (l' := #[true, true, true, true, true, true, true, true, true, false, true, false, false, false, false, false, false, false]) ?_ rfl (by kernel_rfl)
          refine coreS.dry E_ok (by kernel_rfl) 11 rfl rfl (by kernel_rfl) (by kernel_rfl) ?_
          simp [wq1, wq2, hmd, w1, ex, ey, em, es, wq]
          repeat refine ⟨by first | omega | assumption | (simp only [maxLen]; omega) | (intros; omega) | decide, ?_⟩
          refine contS.now (f' := 7) (l' := #[true, true, true, true, true, true, true, true, true, false, true, true, false, false, false, false, false, false]) ?_ rfl (by kernel_rfl)
          refine coreS.dry E_ok (by kernel_rfl) 12 rfl rfl (by kernel_rfl) (by kernel_rfl) ?_
          simp [wq1, wq2, hmd, w1, ex, ey, em, es, wq]
          repeat refine ⟨by first | omega | assumption | (simp only [maxLen]; omega) | (intros; omega) | decide, ?_⟩
          exact contS.mk (by simp [Weak, TW, T.plain]) h_ (by kernel_rfl)
        refine hK _ ?_
        clear hK K
        repeat first | refine thenN ?_ | refine thenX ?_ | refine thenR ?_ | refine blockN ?_ | refine blockR ?_ | refine blockX ?_ | refine blockM rfl ?_
        -- region 10
        refine AWp.rend E_ok [0, 1, 2, 3, 4, 10, 11, 12, 13, 14, 15, 16, 17, 18, 19, 20, 21, 22, 23, 24, 28, 33, 50, 58, 80, 85, 103, 110, 140, 151, 171, 185, 199, 213, 220] fun K hK => ?_
        simp [wq1, wq2, hmd, w1, ex, ey, em, es, wq]
        repeat refine ⟨by first | omega | assumption | (simp only [maxLen]; omega) | (intros; omega) | decide, ?_⟩
        refine hK _ ?_
        clear hK K
        repeat first | refine thenN ?_ | refine thenX ?_ | refine thenR ?_ | refine blockN ?_ | refine blockR ?_ | refine blockX ?_ | refine blockM rfl ?_
        have hu : upN (swapA l1 t q) q (i1 - q) = upN l a (i1 - a) := by rw [← hup, show i1 - t = (i1 - q) + 1 by omega, upN, hq]
        refine ⟨⟨(swapA l1 t q, q), by simp [hll], by dsimp only; omega, by dsimp only; omega, hu⟩, ?_, by dsimp only; omega⟩
        try dsimp only
        simp [Weak, TW]
      · try simp at h58
        have hfin : symM (f + 1) l a m b = l1 := by rw [symM_one f hone, hend, ← hi1, ← hup, show i1 - t = 0 by omega]; rfl
        refine AWp.exit ?_
        repeat first | refine thenN ?_ | refine thenX ?_ | refine thenR ?_ | refine blockN ?_ | refine blockR ?_ | refine blockX ?_ | refine blockM rfl ?_
        refine AWp.ret ?_
        repeat first | refine thenN ?_ | refine thenX ?_ | refine thenR ?_ | refine blockN ?_ | refine blockR ?_ | refine blockX ?_ | refine blockM rfl ?_
        first | (simp [hr4]; done) | (simp [hfin]; done) | simp
  · try simp at h28
    have hone : ¬ m - a = 1 := by omega
    refine AWp.skip ?_
    repeat first | refine thenN ?_ | refine thenX ?_ | refine thenR ?_ | refine blockN ?_ | refine blockR ?_ | refine blockX ?_ | refine blockM rfl ?_
    refine AWp.seq ?_
    -- region 12
    refine AWp.rseq E_ok [0, 1, 2, 3, 4, 10, 11, 12, 13, 14, 15, 16, 17, 18, 19, 20, 21, 22, 23, 24, 28, 33, 50, 58, 80, 85, 103, 110, 140, 151, 171, 185, 199, 213, 220] fun K hK => ?_
    simp [wq1, wq2, hmd]
    repeat refine ⟨by first | omega | assumption | (simp only [maxLen]; omega) | (intros; omega) | decide, ?_⟩
    refine hK _ ?_
    clear hK K
    refine AWp.cond rfl (fun h80 => ?_) (fun h80 => ?_)
    · try simp at h80
      have htwo : b - m = 1 := by omega
      -- region 13
      refine AWp.rseq E_ok [0, 1, 2, 3, 4, 10, 11, 12, 13, 14, 15, 16, 17, 18, 19, 20, 21, 22, 23, 24, 28, 33, 50, 58, 80, 85, 103, 110, 140, 151, 171, 185, 199, 213, 220] fun K hK => ?_
      simp [wq1, wq2, hmd]
      repeat refine ⟨by first | omega | assumption | (simp only [maxLen]; omega) | (intros; omega) | decide, ?_⟩
      refine hK _ ?_
      clear hK K
      -- region 14
      refine AWp.rseq E_ok [0, 1, 2, 3, 4, 10, 11, 12, 13, 14, 15, 16, 17, 18, 19, 20, 21, 22, 23, 24, 28, 33, 50, 58, 80, 85, 103, 110, 140, 151, 171, 185, 199, 213, 220] fun K hK => ?_
      simp [wq1, wq2, hmd]
      repeat refine ⟨by first | omega | assumption | (simp only [maxLen]; omega) | (intros; omega) | decide, ?_⟩
      refine hK _ ?_
      clear hK K
      refine AWp.seq ?_
      refine AWp.block ?_
      refine AWp.loop (ι := { y : Nat × Nat // a ≤ y.1 ∧ y.1 ≤ y.2 ∧ y.2 ≤ m ∧ bsF (fun h => !ltA l m h) y.1 y.2 = bsF (fun h => !ltA l m h) a m }) (fun x => match x with | ⟨⟨i, j⟩, hmi, hij, hjb, hbs⟩ => [(0, T.alias (220, 0)), (1, T.val (D.int IntKind.i64 ↑a)), (2, T.val (D.int IntKind.i64 ↑m)), (3, T.val (D.int IntKind.i64 ↑b)), (4, T.val (D.fn 24 [])), (14, T.val (.int .i64 (i : Int))), (15, T.val (.int .i64 (j : Int))), (220, T.lent vv true (encNote zn) (noteL l))]) (fun x => match x with | ⟨⟨i, j⟩, hmi, hij, hjb, hbs⟩ => j - i) ⟨(a, m), Nat.le_refl _, by dsimp only; omega, Nat.le_refl _, rfl⟩ ?_ ?_
      · simp [Weak, TW]
      rintro ⟨⟨i, j⟩, hmi, hij, hjb, hbs⟩
      simp only
      try simp only at hmi
      try simp only at hij
      try simp only at hjb
      try simp only at hbs
      refine AWp.seq ?_
      -- region 15
      refine AWp.rseq E_ok [0, 1, 2, 3, 4, 10, 11, 12, 13, 14, 15, 16, 17, 18, 19, 20, 21, 22, 23, 24, 28, 33, 50, 58, 80, 85, 103, 110, 140, 151, 171, 185, 199, 213, 220] fun K hK => ?_
      simp [wq1, wq2, hmd]
      repeat refine ⟨by first | omega | assumption | (simp only [maxLen]; omega) | (intros; omega) | decide, ?_⟩
      refine hK _ ?_
      clear hK K
      refine AWp.cond rfl (fun h85 => ?_) (fun h85 => ?_)
      · try simp at h85
        obtain ⟨h, hh⟩ : ∃ z : Nat, z = (i + j) / 2 := ⟨_, rfl⟩
        have hm := half_eq (i := i) (j := j) (by omega)
        rw [← hh] at hm
        obtain ⟨x, hx⟩ : ∃ x, l[m]? = some x := ⟨_, List.getElem?_eq_getElem (by omega)⟩
        obtain ⟨y, hy⟩ : ∃ y, l[h]? = some y := ⟨_, List.getElem?_eq_getElem (by omega)⟩
        have ex := noteL_get hx
        have ey := noteL_get hy
        have hc4 := cmpN_rng x y
        have hlt := ltA_eq hx hy
        refine AWp.skip ?_
        repeat first | refine thenN ?_ | refine thenX ?_ | refine thenR ?_ | refine blockN ?_ | refine blockR ?_ | refine blockX ?_ | refine blockM rfl ?_
        refine AWp.block ?_
        -- region 16
        refine AWp.rseq E_ok [0, 1, 2, 3, 4, 10, 11, 12, 13, 14, 15, 16, 17, 18, 19, 20, 21, 22, 23, 24, 28, 33, 50, 58, 80, 85, 103, 110, 140, 151, 171, 185, 199, 213, 220] fun K hK => ?_
        simp [wq1, wq2, hmd, hm, ex, ey]
        repeat refine ⟨by first | omega | assumption | (simp only [maxLen]; omega) | (intros; omega) | decide, ?_⟩
        refine hK _ ?_
        clear hK K
        -- region 17
        refine AWp.rseqQ E_ok mixed [0, 1, 2, 3, 4, 10, 11, 12, 13, 14, 15, 16, 17, 18, 19, 20, 21, 22, 23, 24, 28, 33, 50, 58, 80, 85, 103, 110, 140, 151, 171, 185, 199, 213, 220] (by kernel_rfl) fun K hK => ?_
        simp [wq1, wq2, hmd, hm, ex, ey]
        repeat refine ⟨by first | omega | assumption | (simp only [maxLen]; omega) | (intros; omega) | decide, ?_⟩
        refine meet.of (notice_Due_1 x y) ?_
        simp [wq1, wq2, hmd, hm, ex, ey]
        repeat refine ⟨by first | omega | assumption | (simp only [maxLen]; omega) | (intros; omega) | decide, ?_⟩
        refine hK _ ?_
        clear hK K
        refine AWp.cond rfl (fun h103 => ?_) (fun h103 => ?_)
        · try simp at h103
          obtain ⟨i2, e2⟩ : ∃ z, z = h + 1 := ⟨_, rfl⟩
          obtain ⟨j2, e3⟩ : ∃ z, z = j := ⟨_, rfl⟩
          have hb2 : bsF (fun h => !ltA l m h) i2 j2 = bsF (fun h => !ltA l m h) i j := by rw [e2, e3]; exact bsF_t (by omega) hh (by simp only [hlt, Bool.not_eq_true']; exact decide_eq_false (by omega))
          have w2 : IntKind.i64.wrap ((h : Int) + 1) = (i2 : Int) := by rw [wrap_i64 (by omega) (by omega)]; omega
          -- region 18
          refine AWp.rend E_ok [0, 1, 2, 3, 4, 10, 11, 12, 13, 14, 15, 16, 17, 18, 19, 20, 21, 22, 23, 24, 28, 33, 50, 58, 80, 85, 103, 110, 140, 151, 171, 185, 199, 213, 220] fun K hK => ?_
          simp [wq1, wq2, hmd, hm, ex, ey, w2]
          repeat refine ⟨by first | omega | assumption | (simp only [maxLen]; omega) | (intros; omega) | decide, ?_⟩
          refine hK _ ?_
          clear hK K
          repeat first | refine thenN ?_ | refine thenX ?_ | refine thenR ?_ | refine blockN ?_ | refine blockR ?_ | refine blockX ?_ | refine blockM rfl ?_
          refine ⟨⟨(i2, j2), by dsimp only; omega, by dsimp only; omega, by dsimp only; omega, hb2.trans hbs⟩, ?_, by dsimp only; omega⟩
          try dsimp only
          simp [Weak, TW, e2, e3]
        · try simp at h103
          obtain ⟨i2, e2⟩ : ∃ z, z = i := ⟨_, rfl⟩
          obtain ⟨j2, e3⟩ : ∃ z, z = h := ⟨_, rfl⟩
          have hb2 : bsF (fun h => !ltA l m h) i2 j2 = bsF (fun h => !ltA l m h) i j := by rw [e2, e3]; exact bsF_f (by omega) hh (by simp only [hlt, Bool.not_eq_false']; exact decide_eq_true (by omega))
          -- region 19
          refine AWp.rend E_ok [0, 1, 2, 3, 4, 10, 11, 12, 13, 14, 15, 16, 17, 18, 19, 20, 21, 22, 23, 24, 28, 33, 50, 58, 80, 85, 103, 110, 140, 151, 171, 185, 199, 213, 220] fun K hK => ?_
          simp [wq1, wq2, hmd, hm, ex, ey]
          repeat refine ⟨by first | omega | assumption | (simp only [maxLen]; omega) | (intros; omega) | decide, ?_⟩
          refine hK _ ?_
          clear hK K
          repeat first | refine thenN ?_ | refine thenX ?_ | refine thenR ?_ | refine blockN ?_ | refine blockR ?_ | refine blockX ?_ | refine blockM rfl ?_
          refine ⟨⟨(i2, j2), by dsimp only; omega, by dsimp only; omega, by dsimp only; omega, hb2.trans hbs⟩, ?_, by dsimp only; omega⟩
          try dsimp only
          simp [Weak, TW, e2, e3]
      · try simp at h85
        have hend : bsF (fun h => !ltA l m h) a m = i := by rw [← hbs]; exact bsF_done (by omega)
        refine AWp.exit ?_
        repeat first | refine thenN ?_ | refine thenX ?_ | refine thenR ?_ | refine blockN ?_ | refine blockR ?_ | refine blockX ?_ | refine blockM rfl ?_
        refine AWp.seq ?_
        -- region 20
        refine AWp.rseq E_ok [0, 1, 2, 3, 4, 10, 11, 12, 13, 14, 15, 16, 17, 18, 19, 20, 21, 22, 23, 24, 28, 33, 50, 58, 80, 85, 103, 110, 140, 151, 171, 185, 199, 213, 220] fun K hK => ?_
        simp [wq1, wq2, hmd]
        repeat refine ⟨by first | omega | assumption | (simp only [maxLen]; omega) | (intros; omega) | decide, ?_⟩
        refine hK _ ?_
        clear hK K
        refine AWp.block ?_
        refine AWp.loop (ι := { y : List Note × Nat // y.1.length = l.length ∧ i ≤ y.2 ∧ y.2 ≤ m ∧ dnN y.1 i (y.2 - i) = dnN l i (m - i) }) (fun x => match x with | ⟨⟨l1, t⟩, hll, hit, htm, hdn⟩ => [(0, T.alias (220, 0)), (1, T.val (D.int IntKind.i64 ↑a)), (2, T.val (D.int IntKind.i64 ↑m)), (3, T.val (D.int IntKind.i64 ↑b)), (4, T.val (D.fn 24 [])), (14, T.val (D.int IntKind.i64 ↑i)), (17, T.val (.int .i64 (t : Int))), (220, T.lent vv true (encNote zn) (noteL l1))]) (fun x => match x with | ⟨⟨l1, t⟩, hll, hit, htm, hdn⟩ => t - i) ⟨(l, m), rfl, by dsimp only; omega, Nat.le_refl _, rfl⟩ ?_ ?_
        · simp [Weak, TW]
        rintro ⟨⟨l1, t⟩, hll, hit, htm, hdn⟩
        simp only
        try simp only at hll
        try simp only at hit
        try simp only at htm
        try simp only at hdn
        refine AWp.seq ?_
        -- region 21
        refine AWp.rseq E_ok [0, 1, 2, 3, 4, 10, 11, 12, 13, 14, 15, 16, 17, 18, 19, 20, 21, 22, 23, 24, 28, 33, 50, 58, 80, 85, 103, 110, 140, 151, 171, 185, 199, 213, 220] fun K hK => ?_
        simp [wq1, wq2, hmd]
        repeat refine ⟨by first | omega | assumption | (simp only [maxLen]; omega) | (intros; omega) | decide, ?_⟩
        refine hK _ ?_
        clear hK K
        refine AWp.cond rfl (fun h110 => ?_) (fun h110 => ?_)
        · try simp at h110
          obtain ⟨q, hq⟩ : ∃ z, z = t - 1 := ⟨_, rfl⟩
          have wq : IntKind.i64.wrap ((t : Int) - 1) = (q : Int) := by rw [wrap_i64 (by omega) (by omega)]; omega
          obtain ⟨x, hx⟩ : ∃ x, l1[t]? = some x := ⟨_, List.getElem?_eq_getElem (by omega)⟩
          obtain ⟨y, hy⟩ : ∃ y, l1[q]? = some y := ⟨_, List.getElem?_eq_getElem (by omega)⟩
          have ex := noteL_get hx
          have ey := noteL_get hy
          have em := noteL_mid (i := t) (z := y) (by omega) hy
          have es := noteL_swap hx hy
          refine AWp.skip ?_
          repeat first | refine thenN ?_ | refine thenX ?_ | refine thenR ?_ | refine blockN ?_ | refine blockR ?_ | refine blockX ?_ | refine blockM rfl ?_
          refine AWp.seq ?_
          refine AWp.block ?_
          -- region 23, every order
          refine AWp.rendS E_ok mixed [0, 1, 2, 3, 4, 10, 11, 12, 13, 14, 15, 16, 17, 18, 19, 20, 21, 22, 23, 24, 28, 33, 50, 58, 80, 85, 103, 110, 140, 151, 171, 185, 199, 213, 220] (n := 18) (l := (zt48x1)) rfl (by kernel_rfl) fun K hK => ?_
          suffices hnext : K [(0, T.alias (220, 0)), (1, T.val (D.int IntKind.i64 ↑a)), (2, T.val (D.int IntKind.i64 ↑m)), (3, T.val (D.int IntKind.i64 ↑b)), (4, T.val (D.fn (24 : FuncId) [])), (10, T.junk), (11, T.junk), (12, T.junk), (13, T.junk), (14, T.val (D.int IntKind.i64 ↑i)), (15, T.junk), (16, T.junk), (17, T.val (D.int IntKind.i64 ↑t)), (18, T.junk), (19, T.junk), (20, T.junk), (21, T.junk), (22, T.junk), (23, T.junk), (24, T.junk), (28, T.junk), (33, T.junk), (50, T.junk), (58, T.junk), (80, T.junk), (85, T.junk), (103, T.junk), (110, T.val (D.bool (decide (i < t)))), (140, T.junk), (151, T.junk), (171, T.junk), (185, T.junk), (199, T.junk), (213, T.junk), (220, T.lent vv true (encNote zn) (noteL (swapA l1 t q)))] by
            refine contS.cut 0 #[true, true, true, true, true, true, true, true, true, true, true, true, true, true, true, true, true, true] [(0, T.alias (220, 0)), (1, T.val (D.int IntKind.i64 ↑a)), (2, T.val (D.int IntKind.i64 ↑m)), (3, T.val (D.int IntKind.i64 ↑b)), (4, T.val (D.fn (24 : FuncId) [])), (14, T.val (D.int IntKind.i64 ↑i)), (17, T.val (D.int IntKind.i64 ↑t)), (110, T.val (D.bool (decide (i < t)))), (220, T.lent vv true (encNote zn) (noteL (swapA l1 t q)))] ?_ fun h_9_13_15_17_ => ?_
            · skip
              refine coreS.nil (by kernel_rfl) ?_
              simpa using hnext
            refine contS.cut 1 #[true, true, true, true, true, true, true, true, true, true, true, true, true, true, true, true, true, false] [(0, T.alias (220, 0)), (1, T.val (D.int IntKind.i64 ↑a)), (2, T.val (D.int IntKind.i64 ↑m)), (3, T.val (D.int IntKind.i64 ↑b)), (4, T.val (D.fn (24 : FuncId) [])), (14, T.val (D.int IntKind.i64 ↑i)), (17, T.val (D.int IntKind.i64 ↑t)), (110, T.val (D.bool (decide (i < t)))), (126, T.val (D.agg [D.int IntKind.i64 x.kind, D.int IntKind.i64 x.patron, D.int IntKind.i64 x.item, D.int IntKind.i64 x.day])), (128, T.optr (220, 0) q 0), (220, T.lent vv true (encNote zn) ((noteL l1).set t (D.agg [D.int IntKind.i64 y.kind, D.int IntKind.i64 y.patron, D.int IntKind.i64 y.item, D.int IntKind.i64 y.day])))] ?_ fun h_9_13_15 => ?_
            · skip
              refine coreS.step E_ok [17] (by kernel_rfl) (by simp) ?_
              refine anyS.cons rfl ?_ ?_
              · skip
                simp [wq1, wq2, hmd, ex, ey, em, es, wq]
                repeat refine ⟨by first | omega | assumption | (simp only [maxLen]; omega) | (intros; omega) | decide, ?_⟩
                exact contS.mk (by simp [Weak, TW, T.plain]) h_9_13_15_17_ (by kernel_rfl)
              exact anyS.nil
            refine contS.cut 3 #[true, true, true, true, true, true, true, true, true, true, true, true, true, true, true, false, false, false] [(0, T.alias (220, 0)), (1, T.val (D.int IntKind.i64 ↑a)), (2, T.val (D.int IntKind.i64 ↑m)), (3, T.val (D.int IntKind.i64 ↑b)), (4, T.val (D.fn (24 : FuncId) [])), (14, T.val (D.int IntKind.i64 ↑i)), (17, T.val (D.int IntKind.i64 ↑t)), (110, T.val (D.bool (decide (i < t)))), (115, T.alias (220, 0)), (117, T.val (D.int IntKind.i64 ↑q)), (122, T.val (D.agg [D.int IntKind.i64 y.kind, D.int IntKind.i64 y.patron, D.int IntKind.i64 y.item, D.int IntKind.i64 y.day])), (126, T.val (D.agg [D.int IntKind.i64 x.kind, D.int IntKind.i64 x.patron, D.int IntKind.i64 x.item, D.int IntKind.i64 x.day])), (127, T.optr (220, 0) t 0), (220, T.lent vv true (encNote zn) (noteL l1))] ?_ fun h_9_13 => ?_
            · skip
              refine coreS.step E_ok [15] (by kernel_rfl) (by simp) ?_
              refine anyS.cons rfl ?_ ?_
              · skip
                simp [wq1, wq2, hmd, ex, ey, em, es, wq]
                repeat refine ⟨by first | omega | assumption | (simp only [maxLen]; omega) | (intros; omega) | decide, ?_⟩
                refine contS.now (f' := 2) (l' := #[true, true, true, true, true, true, true, true, true, true, true, true, true, true, true, true, false, false]) ?_ rfl (by kernel_rfl)
                refine coreS.dry E_ok (by kernel_rfl) 16 rfl rfl (by kernel_rfl) (by kernel_rfl) ?_
                simp [wq1, wq2, hmd, ex, ey, em, es, wq]
                repeat refine ⟨by first | omega | assumption | (simp only [maxLen]; omega) | (intros; omega) | decide, ?_⟩
                exact contS.mk (by simp [Weak, TW, T.plain]) h_9_13_15 (by kernel_rfl)
              exact anyS.nil
            refine contS.cut 5 #[true, true, true, true, true, true, true, true, true, true, true, true, true, false, false, false, false, false] [(0, T.alias (220, 0)), (1, T.val (D.int IntKind.i64 ↑a)), (2, T.val (D.int IntKind.i64 ↑m)), (3, T.val (D.int IntKind.i64 ↑b)), (4, T.val (D.fn (24 : FuncId) [])), (14, T.val (D.int IntKind.i64 ↑i)), (17, T.val (D.int IntKind.i64 ↑t)), (110, T.val (D.bool (decide (i < t)))), (113, T.alias (220, 0)), (114, T.val (D.int IntKind.i64 ↑t)), (115, T.alias (220, 0)), (117, T.val (D.int IntKind.i64 ↑q)), (122, T.val (D.agg [D.int IntKind.i64 y.kind, D.int IntKind.i64 y.patron, D.int IntKind.i64 y.item, D.int IntKind.i64 y.day])), (125, T.optr (220, 0) t 0), (220, T.lent vv true (encNote zn) (noteL l1))] ?_ fun h_9 => ?_
            · skip
              refine coreS.step E_ok [13] (by kernel_rfl) (by simp) ?_
              refine anyS.cons rfl ?_ ?_
              · skip
                simp [wq1, wq2, hmd, ex, ey, em, es, wq]
                repeat refine ⟨by first | omega | assumption | (simp only [maxLen]; omega) | (intros; omega) | decide, ?_⟩
                refine contS.now (f' := 4) (l' := (zt48x2)) ?_ rfl (by kernel_rfl)
                refine coreS.dry E_ok (by kernel_rfl) 14 rfl rfl (by kernel_rfl) (by kernel_rfl) ?_
                simp [wq1, wq2, hmd, ex, ey, em, es, wq]
                repeat refine ⟨by first | omega | assumption | (simp only [maxLen]; omega) | (intros; omega) | decide, ?_⟩
                exact contS.mk (by simp [Weak, TW, T.plain]) h_9_13 (by kernel_rfl)
              exact anyS.nil
            refine contS.cut 5 #[true, true, true, true, true, true, true, true, true, false, true, true, true, true, false, false, false, false] [(0, T.alias (220, 0)), (1, T.val (D.int IntKind.i64 ↑a)), (2, T.val (D.int IntKind.i64 ↑m)), (3, T.val (D.int IntKind.i64 ↑b)), (4, T.val (D.fn (24 : FuncId) [])), (14, T.val (D.int IntKind.i64 ↑i)), (17, T.val (D.int IntKind.i64 ↑t)), (110, T.val (D.bool (decide (i < t)))), (113, T.alias (220, 0)), (114, T.val (D.int IntKind.i64 ↑t)), (115, T.alias (220, 0)), (117, T.val (D.int IntKind.i64 ↑q)), (121, T.optr (220, 0) q 0), (126, T.val (D.agg [D.int IntKind.i64 x.kind, D.int IntKind.i64 x.patron, D.int IntKind.i64 x.item, D.int IntKind.i64 x.day])), (220, T.lent vv true (encNote zn) (noteL l1))] ?_ fun h_13 => ?_
            · skip
              refine coreS.step E_ok [9] (by kernel_rfl) (by simp) ?_
              refine anyS.cons rfl ?_ ?_
              · skip
                simp [wq1, wq2, hmd, ex, ey, em, es, wq]
                repeat refine ⟨by first | omega | assumption | (simp only [maxLen]; omega) | (intros; omega) | decide, ?_⟩
                refine contS.now (f' := 4) (l' := (zt48x2)) ?_ rfl (by kernel_rfl)
                refine coreS.dry E_ok (by kernel_rfl) 14 rfl rfl (by kernel_rfl) (by kernel_rfl) ?_
                simp [wq1, wq2, hmd, ex, ey, em, es, wq]
                repeat refine ⟨by first | omega | assumption | (simp only [maxLen]; omega) | (intros; omega) | decide, ?_⟩
                exact contS.mk (by simp [Weak, TW, T.plain]) h_9_13 (by kernel_rfl)
              exact anyS.nil
            refine contS.cut 6 #[true, true, true, true, true, true, true, true, true, false, true, true, true, false, false, false, false, false] [(0, T.alias (220, 0)), (1, T.val (D.int IntKind.i64 ↑a)), (2, T.val (D.int IntKind.i64 ↑m)), (3, T.val (D.int IntKind.i64 ↑b)), (4, T.val (D.fn (24 : FuncId) [])), (14, T.val (D.int IntKind.i64 ↑i)), (17, T.val (D.int IntKind.i64 ↑t)), (110, T.val (D.bool (decide (i < t)))), (113, T.alias (220, 0)), (114, T.val (D.int IntKind.i64 ↑t)), (115, T.alias (220, 0)), (117, T.val (D.int IntKind.i64 ↑q)), (121, T.optr (220, 0) q 0), (125, T.optr (220, 0) t 0), (220, T.lent vv true (encNote zn) (noteL l1))] ?_ fun h_ => ?_
            · skip
              refine coreS.step E_ok [9, 13] (by kernel_rfl) (by simp) ?_
              refine anyS.cons rfl ?_ ?_
              · skip
                simp [wq1, wq2, hmd, ex, ey, em, es, wq]
                repeat refine ⟨by first | omega | assumption | (simp only [maxLen]; omega) | (intros; omega) | decide, ?_⟩
                exact contS.mk (by simp [Weak, TW, T.plain]) h_9 (by kernel_rfl)
              refine anyS.cons rfl ?_ ?_
              · skip
                simp [wq1, wq2, hmd, ex, ey, em, es, wq]
                repeat refine ⟨by first | omega | assumption | (simp only [maxLen]; omega) | (intros; omega) | decide, ?_⟩
                exact contS.mk (by simp [Weak, TW, T.plain]) h_13 (by kernel_rfl)
              exact anyS.nil
            refine contS.now (f' := 18) (l' := (zt48x1)) ?_ rfl (by kernel_rfl)
            refine coreS.dry E_ok (by kernel_rfl) 0 rfl rfl (by kernel_rfl) (by kernel_rfl) ?_
            simp [wq1, wq2, hmd, ex, ey, em, es, wq]
            repeat refine ⟨by first | omega | assumption | (simp only [maxLen]; omega) | (intros; omega) | decide, ?_⟩
            refine contS.now (f' := 17) (l' := #[true, false, false, false, false, false, false, false, false, false, false, false, false, false, false, false, false, false]) ?_ rfl (by kernel_rfl)
            refine coreS.dry E_ok (by kernel_rfl) 1 rfl rfl (by kernel_rfl) (by kernel_rfl) ?_
            simp [wq1, wq2, hmd, ex, ey, em, es, wq]
            repeat refine ⟨by first | omega | assumption | (simp only [maxLen]; omega) | (intros; omega) | decide, ?_⟩
            refine contS.now (f' := 16) (l' := #[true, true, false, false, false, false, false, false, false, false, false, false, false, false, false, false, false, false]) ?_ rfl (by kernel_rfl)
            refine coreS.dry E_ok (by kernel_rfl) 2 rfl rfl (by kernel_rfl) (by kernel_rfl) ?_
            simp [wq1, wq2, hmd, ex, ey, em, es, wq]
            repeat refine ⟨by first | omega | assumption | (simp only [maxLen]; omega) | (intros; omega) | decide, ?_⟩
            refine contS.now (f' := 15) (l' := #[true, true, true, false, false, false, false, false, false, false, false, false, false, false, false, false, false, false]) ?_ rfl (by kernel_rfl)
            refine coreS.dry E_ok (by kernel_rfl) 3 rfl rfl (by kernel_rfl) (by kernel_rfl) ?_
            simp [wq1, wq2, hmd, ex, ey, em, es, wq]
            repeat refine ⟨by first | omega | assumption | (simp only [maxLen]; omega) | (intros; omega) | decide, ?_⟩
            refine contS.now (f' := 14) (l' := #[true, true, true, true, false, false, false, false, false, false, false, false, false, false, false, false, false, false]) ?_ rfl (by kernel_rfl)
            refine coreS.dry E_ok (by kernel_rfl) 4 rfl rfl (by kernel_rfl) (by kernel_rfl) ?_
            simp [wq1, wq2, hmd, ex, ey, em, es, wq]
            repeat refine ⟨by first | omega | assumption | (simp only [maxLen]; omega) | (intros; omega) | decide, ?_⟩
            refine contS.now (f' := 13) (l' := #[true, true, true, true, true, false, false, false, false, false, false, false, false, false, false, false, false, false]) ?_ rfl (by kernel_rfl)
            refine coreS.dry E_ok (by kernel_rfl) 5 rfl rfl (by kernel_rfl) (by kernel_rfl) ?_
            simp [wq1, wq2, hmd, ex, ey, em, es, wq]
            repeat refine ⟨by first | omega | assumption | (simp only [maxLen]; omega) | (intros; omega) | decide, ?_⟩
            refine contS.now (f' := 12) (l' := #[true, true, true, true, true, true, false, false, false, false, false, false, false, false, false, false, false, false]) ?_ rfl (by kernel_rfl)
            refine coreS.dry E_ok (by kernel_rfl) 6 rfl rfl (by kernel_rfl) (by kernel_rfl) ?_
            simp [wq1, wq2, hmd, ex, ey, em, es, wq]
            repeat refine ⟨by first | omega | assumption | (simp only [maxLen]; omega) | (intros; omega) | decide, ?_⟩
            refine contS.now (f' := 11) (l' := #[true, true, true, true, true, true, true, false, false, false, false, false, false, false, false, false, false, false]) ?_ rfl (by kernel_rfl)
            refine coreS.dry E_ok (by kernel_rfl) 7 rfl rfl (by kernel_rfl) (by kernel_rfl) ?_
            simp [wq1, wq2, hmd, ex, ey, em, es, wq]
            repeat refine ⟨by first | omega | assumption | (simp only [maxLen]; omega) | (intros; omega) | decide, ?_⟩
            refine contS.now (f' := 10) (l' := #[true, true, true, true, true, true, true, true, false, false, false, false, false, false, false, false, false, false]) ?_ rfl (by kernel_rfl)
            refine coreS.dry E_ok (by kernel_rfl) 8 rfl rfl (by kernel_rfl) (by kernel_rfl) ?_
            simp [wq1, wq2, hmd, ex, ey, em, es, wq]
            repeat refine ⟨by first | omega | assumption | (simp only [maxLen]; omega) | (intros; omega) | decide, ?_⟩
            refine contS.now (f' := 9) (l' := #[true, true, true, true, true, true, true, true, true, false, false, false, false, false, false, false, false, false]) ?_ rfl (by kernel_rfl)
            refine coreS.dry E_ok (by kernel_rfl) 10 rfl rfl (by kernel_rfl) (by kernel_rfl) ?_
            simp [wq1, wq2, hmd, ex, ey, em, es, wq]
            repeat refine ⟨by first | omega | assumption | (simp only [maxLen]; omega) | (intros; omega) | decide, ?_⟩
            refine contS.now (f' := 8) (l' := #[true, true, true, true, true, true, true, true, true, false, true, false, false, false, false, false, false, false]) ?_ rfl (by kernel_rfl)
            refine coreS.dry E_ok (by kernel_rfl) 11 rfl rfl (by kernel_rfl) (by kernel_rfl) ?_
            simp [wq1, wq2, hmd, ex, ey, em, es, wq]
            repeat refine ⟨by first | omega | assumption | (simp only [maxLen]; omega) | (intros; omega) | decide, ?_⟩
            refine contS.now (f' := 7) (l' := #[true, true, true, true, true, true, true, true, true, false, true, true, false, false, false, false, false, false]) ?_ rfl (by kernel_rfl)
            refine coreS.dry E_ok (by kernel_rfl) 12 rfl rfl (by kernel_rfl) (by kernel_rfl) ?_
            simp [wq1, wq2, hmd, ex, ey, em, es, wq]
            repeat refine ⟨by first | omega | assumption | (simp only [maxLen]; omega) | (intros; omega) | decide, ?_⟩
            exact contS.mk (by simp [Weak, TW, T.plain]) h_ (by kernel_rfl)
          refine hK _ ?_
          clear hK K
          repeat first | refine thenN ?_ | refine thenX ?_ | refine thenR ?_ | refine blockN ?_ | refine blockR ?_ | refine blockX ?_ | refine blockM rfl ?_
          -- region 22
          refine AWp.rend E_ok [0, 1, 2, 3, 4, 10, 11, 12, 13, 14, 15, 16, 17, 18, 19, 20, 21, 22, 23, 24, 28, 33, 50, 58, 80, 85, 103, 110, 140, 151, 171, 185, 199, 213, 220] fun K hK => ?_
          simp [wq1, wq2, hmd, ex, ey, em, es, wq]
          repeat refine ⟨by first | omega | assumption | (simp only [maxLen]; omega) | (intros; omega) | decide, ?_⟩
          refine hK _ ?_
          clear hK K
          repeat first | refine thenN ?_ | refine thenX ?_ | refine thenR ?_ | refine blockN ?_ | refine blockR ?_ | refine blockX ?_ | refine blockM rfl ?_
          have hu : dnN (swapA l1 t q) i (q - i) = dnN l i (m - i) := by rw [← hdn, show t - i = (q - i) + 1 by omega, dnN, show i + (q - i) + 1 = t by omega, show i + (q - i) = q by omega]
          refine ⟨⟨(swapA l1 t q, q), by simp [hll], by dsimp only; omega, by dsimp only; omega, hu⟩, ?_, by dsimp only; omega⟩
          try dsimp only
          simp [Weak, TW]
        · try simp at h110
          have hfin : symM (f + 1) l a m b = l1 := by rw [symM_two f hone htwo, hend, ← hdn, show t - i = 0 by omega]; rfl
          refine AWp.exit ?_
          repeat first | refine thenN ?_ | refine thenX ?_ | refine thenR ?_ | refine blockN ?_ | refine blockR ?_ | refine blockX ?_ | refine blockM rfl ?_
          refine AWp.ret ?_
          repeat first | refine thenN ?_ | refine thenX ?_ | refine thenR ?_ | refine blockN ?_ | refine blockR ?_ | refine blockX ?_ | refine blockM rfl ?_
          first | (simp [hr4]; done) | (simp [hfin]; done) | simp
    · try simp at h80
      have htwo : ¬ b - m = 1 := by omega
      obtain ⟨k0, hk0⟩ : ∃ z, z = d + m := ⟨_, rfl⟩
      have wk0 : IntKind.i64.wrap ((d : Int) + (m : Int)) = (k0 : Int) := by rw [wrap_i64 (by omega) (by omega)]; omega
      obtain ⟨s0, hs0⟩ : ∃ z, z = if d < m then d + m - b else a := ⟨_, rfl⟩
      obtain ⟨r0, hr0⟩ : ∃ z, z = if d < m then d else m := ⟨_, rfl⟩
      obtain ⟨pp, hpp⟩ : ∃ z, z = k0 - 1 := ⟨_, rfl⟩
      have wpp : IntKind.i64.wrap ((k0 : Int) - 1) = (pp : Int) := by rw [wrap_i64 (by omega) (by omega)]; omega
      have hbnd : a ≤ s0 ∧ s0 ≤ r0 ∧ r0 ≤ m ∧ d + m ≤ s0 + b ∧ r0 ≤ d := by rw [hs0, hr0]; split <;> omega
      refine AWp.skip ?_
      repeat first | refine thenN ?_ | refine thenX ?_ | refine thenR ?_ | refine blockN ?_ | refine blockR ?_ | refine blockX ?_ | refine blockM rfl ?_
      -- region 24
      refine AWp.rseq E_ok [0, 1, 2, 3, 4, 10, 11, 12, 13, 14, 15, 16, 17, 18, 19, 20, 21, 22, 23, 24, 28, 33, 50, 58, 80, 85, 103, 110, 140, 151, 171, 185, 199, 213, 220] fun K hK => ?_
      simp [wq1, wq2, hmd, wk0, wpp]
      repeat refine ⟨by first | omega | assumption | (simp only [maxLen]; omega) | (intros; omega) | decide, ?_⟩
      refine hK _ ?_
      clear hK K
      -- region 25
      refine AWp.rseq E_ok [0, 1, 2, 3, 4, 10, 11, 12, 13, 14, 15, 16, 17, 18, 19, 20, 21, 22, 23, 24, 28, 33, 50, 58, 80, 85, 103, 110, 140, 151, 171, 185, 199, 213, 220] fun K hK => ?_
      simp [wq1, wq2, hmd, wk0, wpp]
      repeat refine ⟨by first | omega | assumption | (simp only [maxLen]; omega) | (intros; omega) | decide, ?_⟩
      refine hK _ ?_
      clear hK K
      -- region 26
      refine AWp.rseq E_ok [0, 1, 2, 3, 4, 10, 11, 12, 13, 14, 15, 16, 17, 18, 19, 20, 21, 22, 23, 24, 28, 33, 50, 58, 80, 85, 103, 110, 140, 151, 171, 185, 199, 213, 220] fun K hK => ?_
      simp [wq1, wq2, hmd, wk0, wpp]
      repeat refine ⟨by first | omega | assumption | (simp only [maxLen]; omega) | (intros; omega) | decide, ?_⟩
      refine hK _ ?_
      clear hK K
      refine AWp.join (ι := Unit) (fun _ => [(0, T.alias (220, 0)), (1, T.val (D.int IntKind.i64 ↑a)), (2, T.val (D.int IntKind.i64 ↑m)), (3, T.val (D.int IntKind.i64 ↑b)), (4, T.val (D.fn 24 [])), (18, T.val (D.int IntKind.i64 ↑d)), (19, T.val (D.int IntKind.i64 ↑k0)), (20, T.val (.int .i64 (s0 : Int))), (21, T.val (.int .i64 (r0 : Int))), (220, T.lent vv true (encNote zn) (noteL l))]) ?_ ?_
      · skip
        -- region 27
        refine AWp.rseq E_ok [0, 1, 2, 3, 4, 10, 11, 12, 13, 14, 15, 16, 17, 18, 19, 20, 21, 22, 23, 24, 28, 33, 50, 58, 80, 85, 103, 110, 140, 151, 171, 185, 199, 213, 220] fun K hK => ?_
        simp [wq1, wq2, hmd, wk0, wpp]
        repeat refine ⟨by first | omega | assumption | (simp only [maxLen]; omega) | (intros; omega) | decide, ?_⟩
        refine hK _ ?_
        clear hK K
        refine AWp.cond rfl (fun h140 => ?_) (fun h140 => ?_)
        · try simp at h140
          have hs1 : s0 = d + m - b := by rw [hs0, if_pos (by omega)]
          have hr1 : r0 = d := by rw [hr0, if_pos (by omega)]
          have wkb : IntKind.i64.wrap ((k0 : Int) - (b : Int)) = (s0 : Int) := by rw [wrap_i64 (by omega) (by omega)]; omega
          -- region 28
          refine AWp.rseq E_ok [0, 1, 2, 3, 4, 10, 11, 12, 13, 14, 15, 16, 17, 18, 19, 20, 21, 22, 23, 24, 28, 33, 50, 58, 80, 85, 103, 110, 140, 151, 171, 185, 199, 213, 220] fun K hK => ?_
          simp [wq1, wq2, hmd, wk0, wpp, wkb, hr1]
          repeat refine ⟨by first | omega | assumption | (simp only [maxLen]; omega) | (intros; omega) | decide, ?_⟩
          refine hK _ ?_
          clear hK K
          -- region 29
          refine AWp.rend E_ok [0, 1, 2, 3, 4, 10, 11, 12, 13, 14, 15, 16, 17, 18, 19, 20, 21, 22, 23, 24, 28, 33, 50, 58, 80, 85, 103, 110, 140, 151, 171, 185, 199, 213, 220] fun K hK => ?_
          simp [wq1, wq2, hmd, wk0, wpp, wkb, hr1]
          repeat refine ⟨by first | omega | assumption | (simp only [maxLen]; omega) | (intros; omega) | decide, ?_⟩
          refine hK _ ?_
          clear hK K
          repeat first | refine thenN ?_ | refine thenX ?_ | refine thenR ?_ | refine blockN ?_ | refine blockR ?_ | refine blockX ?_ | refine blockM rfl ?_
          refine ⟨(), ?_⟩
          simp [Weak, TW, wq1, wq2, hmd, wk0, wpp, wkb, hr1]
        · try simp at h140
          have hs1 : s0 = a := by rw [hs0, if_neg (by omega)]
          have hr1 : r0 = m := by rw [hr0, if_neg (by omega)]
          -- region 30
          refine AWp.rseq E_ok [0, 1, 2, 3, 4, 10, 11, 12, 13, 14, 15, 16, 17, 18, 19, 20, 21, 22, 23, 24, 28, 33, 50, 58, 80, 85, 103, 110, 140, 151, 171, 185, 199, 213, 220] fun K hK => ?_
          simp [wq1, wq2, hmd, wk0, wpp, hs1, hr1]
          repeat refine ⟨by first | omega | assumption | (simp only [maxLen]; omega) | (intros; omega) | decide, ?_⟩
          refine hK _ ?_
          clear hK K
          -- region 31
          refine AWp.rend E_ok [0, 1, 2, 3, 4, 10, 11, 12, 13, 14, 15, 16, 17, 18, 19, 20, 21, 22, 23, 24, 28, 33, 50, 58, 80, 85, 103, 110, 140, 151, 171, 185, 199, 213, 220] fun K hK => ?_
          simp [wq1, wq2, hmd, wk0, wpp, hs1, hr1]
          repeat refine ⟨by first | omega | assumption | (simp only [maxLen]; omega) | (intros; omega) | decide, ?_⟩
          refine hK _ ?_
          clear hK K
          repeat first | refine thenN ?_ | refine thenX ?_ | refine thenR ?_ | refine blockN ?_ | refine blockR ?_ | refine blockX ?_ | refine blockM rfl ?_
          refine ⟨(), ?_⟩
          simp [Weak, TW, wq1, wq2, hmd, wk0, wpp, hs1, hr1]
      rintro ⟨⟩
      try simp only
      -- region 32
      refine AWp.rseq E_ok [0, 1, 2, 3, 4, 10, 11, 12, 13, 14, 15, 16, 17, 18, 19, 20, 21, 22, 23, 24, 28, 33, 50, 58, 80, 85, 103, 110, 140, 151, 171, 185, 199, 213, 220] fun K hK => ?_
      simp [wq1, wq2, hmd, wk0, wpp]
      repeat refine ⟨by first | omega | assumption | (simp only [maxLen]; omega) | (intros; omega) | decide, ?_⟩
      refine hK _ ?_
      clear hK K
      refine AWp.seq ?_
      refine AWp.block ?_
      refine AWp.loop (ι := { y : Nat × Nat // s0 ≤ y.1 ∧ y.1 ≤ y.2 ∧ y.2 ≤ r0 ∧ bsF (fun c => !ltA l (d + m - 1 - c) c) y.1 y.2 = bsF (fun c => !ltA l (d + m - 1 - c) c) s0 r0 }) (fun x => match x with | ⟨⟨i, j⟩, hmi, hij, hjb, hbs⟩ => [(0, T.alias (220, 0)), (1, T.val (D.int IntKind.i64 ↑a)), (2, T.val (D.int IntKind.i64 ↑m)), (3, T.val (D.int IntKind.i64 ↑b)), (4, T.val (D.fn 24 [])), (18, T.val (D.int IntKind.i64 ↑d)), (19, T.val (D.int IntKind.i64 ↑k0)), (20, T.val (.int .i64 (i : Int))), (21, T.val (.int .i64 (j : Int))), (22, T.val (D.int IntKind.i64 ↑pp)), (220, T.lent vv true (encNote zn) (noteL l))]) (fun x => match x with | ⟨⟨i, j⟩, hmi, hij, hjb, hbs⟩ => j - i) ⟨(s0, r0), Nat.le_refl _, by dsimp only; omega, Nat.le_refl _, rfl⟩ ?_ ?_
      · simp [Weak, TW]
      rintro ⟨⟨i, j⟩, hmi, hij, hjb, hbs⟩
      simp only
      try simp only at hmi
      try simp only at hij
      try simp only at hjb
      try simp only at hbs
      refine AWp.seq ?_
      -- region 33
      refine AWp.rseq E_ok [0, 1, 2, 3, 4, 10, 11, 12, 13, 14, 15, 16, 17, 18, 19, 20, 21, 22, 23, 24, 28, 33, 50, 58, 80, 85, 103, 110, 140, 151, 171, 185, 199, 213, 220] fun K hK => ?_
      simp [wq1, wq2, hmd, wk0, wpp]
      repeat refine ⟨by first | omega | assumption | (simp only [maxLen]; omega) | (intros; omega) | decide, ?_⟩
      refine hK _ ?_
      clear hK K
      refine AWp.cond rfl (fun h151 => ?_) (fun h151 => ?_)
      · try simp at h151
        obtain ⟨h, hh⟩ : ∃ z : Nat, z = (i + j) / 2 := ⟨_, rfl⟩
        have hm := half_eq (i := i) (j := j) (by omega)
        rw [← hh] at hm
        obtain ⟨pc, hpc⟩ : ∃ z, z = d + m - 1 - h := ⟨_, rfl⟩
        have wpc : IntKind.i64.wrap ((pp : Int) - (h : Int)) = (pc : Int) := by rw [wrap_i64 (by omega) (by omega)]; omega
        obtain ⟨x, hx⟩ : ∃ x, l[pc]? = some x := ⟨_, List.getElem?_eq_getElem (by omega)⟩
        obtain ⟨y, hy⟩ : ∃ y, l[h]? = some y := ⟨_, List.getElem?_eq_getElem (by omega)⟩
        have ex := noteL_get hx
        have ey := noteL_get hy
        have hc4 := cmpN_rng x y
        have hlt := ltA_eq hx hy
        refine AWp.skip ?_
        repeat first | refine thenN ?_ | refine thenX ?_ | refine thenR ?_ | refine blockN ?_ | refine blockR ?_ | refine blockX ?_ | refine blockM rfl ?_
        refine AWp.block ?_
        -- region 34
        refine AWp.rseq E_ok [0, 1, 2, 3, 4, 10, 11, 12, 13, 14, 15, 16, 17, 18, 19, 20, 21, 22, 23, 24, 28, 33, 50, 58, 80, 85, 103, 110, 140, 151, 171, 185, 199, 213, 220] fun K hK => ?_
        simp [wq1, wq2, hmd, wk0, wpp, hm, ex, ey, wpc]
        repeat refine ⟨by first | omega | assumption | (simp only [maxLen]; omega) | (intros; omega) | decide, ?_⟩
        refine hK _ ?_
        clear hK K
        -- region 35
        refine AWp.rseqQ E_ok mixed [0, 1, 2, 3, 4, 10, 11, 12, 13, 14, 15, 16, 17, 18, 19, 20, 21, 22, 23, 24, 28, 33, 50, 58, 80, 85, 103, 110, 140, 151, 171, 185, 199, 213, 220] (by kernel_rfl) fun K hK => ?_
        simp [wq1, wq2, hmd, wk0, wpp, hm, ex, ey, wpc]
        repeat refine ⟨by first | omega | assumption | (simp only [maxLen]; omega) | (intros; omega) | decide, ?_⟩
        refine meet.of (notice_Due_1 x y) ?_
        simp [wq1, wq2, hmd, wk0, wpp, hm, ex, ey, wpc]
        repeat refine ⟨by first | omega | assumption | (simp only [maxLen]; omega) | (intros; omega) | decide, ?_⟩
        refine hK _ ?_
        clear hK K
        refine AWp.cond rfl (fun h171 => ?_) (fun h171 => ?_)
        · try simp at h171
          obtain ⟨i2, e2⟩ : ∃ z, z = h + 1 := ⟨_, rfl⟩
          obtain ⟨j2, e3⟩ : ∃ z, z = j := ⟨_, rfl⟩
          have hb2 : bsF (fun c => !ltA l (d + m - 1 - c) c) i2 j2 = bsF (fun c => !ltA l (d + m - 1 - c) c) i j := by rw [e2, e3]; exact bsF_t (by omega) hh (by simp only [← hpc, hlt, Bool.not_eq_true']; exact decide_eq_false (by omega))
          have w2 : IntKind.i64.wrap ((h : Int) + 1) = (i2 : Int) := by rw [wrap_i64 (by omega) (by omega)]; omega
          -- region 36
          refine AWp.rend E_ok [0, 1, 2, 3, 4, 10, 11, 12, 13, 14, 15, 16, 17, 18, 19, 20, 21, 22, 23, 24, 28, 33, 50, 58, 80, 85, 103, 110, 140, 151, 171, 185, 199, 213, 220] fun K hK => ?_
          simp [wq1, wq2, hmd, wk0, wpp, hm, ex, ey, wpc, w2]
          repeat refine ⟨by first | omega | assumption | (simp only [maxLen]; omega) | (intros; omega) | decide, ?_⟩
          refine hK _ ?_
          clear hK K
          repeat first | refine thenN ?_ | refine thenX ?_ | refine thenR ?_ | refine blockN ?_ | refine blockR ?_ | refine blockX ?_ | refine blockM rfl ?_
          refine ⟨⟨(i2, j2), by dsimp only; omega, by dsimp only; omega, by dsimp only; omega, hb2.trans hbs⟩, ?_, by dsimp only; omega⟩
          try dsimp only
          simp [Weak, TW, e2, e3]
        · try simp at h171
          obtain ⟨i2, e2⟩ : ∃ z, z = i := ⟨_, rfl⟩
          obtain ⟨j2, e3⟩ : ∃ z, z = h := ⟨_, rfl⟩
          have hb2 : bsF (fun c => !ltA l (d + m - 1 - c) c) i2 j2 = bsF (fun c => !ltA l (d + m - 1 - c) c) i j := by rw [e2, e3]; exact bsF_f (by omega) hh (by simp only [← hpc, hlt, Bool.not_eq_false']; exact decide_eq_true (by omega))
          -- region 37
          refine AWp.rend E_ok [0, 1, 2, 3, 4, 10, 11, 12, 13, 14, 15, 16, 17, 18, 19, 20, 21, 22, 23, 24, 28, 33, 50, 58, 80, 85, 103, 110, 140, 151, 171, 185, 199, 213, 220] fun K hK => ?_
          simp [wq1, wq2, hmd, wk0, wpp, hm, ex, ey, wpc]
          repeat refine ⟨by first | omega | assumption | (simp only [maxLen]; omega) | (intros; omega) | decide, ?_⟩
          refine hK _ ?_
          clear hK K
          repeat first | refine thenN ?_ | refine thenX ?_ | refine thenR ?_ | refine blockN ?_ | refine blockR ?_ | refine blockX ?_ | refine blockM rfl ?_
          refine ⟨⟨(i2, j2), by dsimp only; omega, by dsimp only; omega, by dsimp only; omega, hb2.trans hbs⟩, ?_, by dsimp only; omega⟩
          try dsimp only
          simp [Weak, TW, e2, e3]
      · try simp at h151
        have hend : bsF (fun c => !ltA l (d + m - 1 - c) c) s0 r0 = i := by rw [← hbs]; exact bsF_done (by omega)
        have hss : i = symS l a m b := by rw [← hend, hs0, hr0, hd]; rfl
        obtain ⟨e, he⟩ : ∃ z, z = d + m - i := ⟨_, rfl⟩
        have we : IntKind.i64.wrap ((k0 : Int) - (i : Int)) = (e : Int) := by rw [wrap_i64 (by omega) (by omega)]; omega
        obtain ⟨l1, hl1⟩ : ∃ z, z = symR l a m b := ⟨_, rfl⟩
        obtain ⟨l2, hl2⟩ : ∃ z, z = symQ f l1 a i d := ⟨_, rfl⟩
        have hl1n : l1.length = l.length := by rw [hl1]; simp
        have hl2n : l2.length = l.length := by rw [hl2, symQ]; split <;> simp [hl1n]
        have hsym : symM (f + 1) l a m b = symQ f l2 d e b := by rw [hl2, hl1]; exact symM_big f hone htwo hd hss he
        refine AWp.exit ?_
        repeat first | refine thenN ?_ | refine thenX ?_ | refine thenR ?_ | refine blockN ?_ | refine blockR ?_ | refine blockX ?_ | refine blockM rfl ?_
        -- region 38
        refine AWp.rseq E_ok [0, 1, 2, 3, 4, 10, 11, 12, 13, 14, 15, 16, 17, 18, 19, 20, 21, 22, 23, 24, 28, 33, 50, 58, 80, 85, 103, 110, 140, 151, 171, 185, 199, 213, 220] fun K hK => ?_
        simp [wq1, wq2, hmd, wk0, wpp, we]
        repeat refine ⟨by first | omega | assumption | (simp only [maxLen]; omega) | (intros; omega) | decide, ?_⟩
        refine hK _ ?_
        clear hK K
        refine AWp.join (ι := Unit) (fun _ => [(0, T.alias (220, 0)), (1, T.val (D.int IntKind.i64 ↑a)), (2, T.val (D.int IntKind.i64 ↑m)), (3, T.val (D.int IntKind.i64 ↑b)), (4, T.val (D.fn 24 [])), (18, T.val (D.int IntKind.i64 ↑d)), (20, T.val (D.int IntKind.i64 ↑i)), (24, T.val (D.int IntKind.i64 ↑e)), (220, T.lent vv true (encNote zn) (noteL l1))]) ?_ ?_
        · skip
          -- region 39
          refine AWp.rseq E_ok [0, 1, 2, 3, 4, 10, 11, 12, 13, 14, 15, 16, 17, 18, 19, 20, 21, 22, 23, 24, 28, 33, 50, 58, 80, 85, 103, 110, 140, 151, 171, 185, 199, 213, 220] fun K hK => ?_
          simp [wq1, wq2, hmd, wk0, wpp, we]
          repeat refine ⟨by first | omega | assumption | (simp only [maxLen]; omega) | (intros; omega) | decide, ?_⟩
          refine hK _ ?_
          clear hK K
          refine AWp.cond rfl (fun h185 => ?_) (fun h185 => ?_)
          · try simp at h185
            have hcc : i < m ∧ m < e := by omega
            have hr2 : rotG l m (m - i) (e - m) = l1 := by rw [hl1, symR, ← hss, ← hd, ← he, if_pos hcc]
            -- region 40
            refine AWp.rendL E_ok [0, 1, 2, 3, 4, 10, 11, 12, 13, 14, 15, 16, 17, 18, 19, 20, 21, 22, 23, 24, 28, 33, 50, 58, 80, 85, 103, 110, 140, 151, 171, 185, 199, 213, 220] fun K hK => ?_
            simp [wq1, wq2, hmd, wk0, wpp, we, hr2]
            repeat refine ⟨by first | omega | assumption | (simp only [maxLen]; omega) | (intros; omega) | decide, ?_⟩
            refine meetL.of (slices_rotateCmpFunc_api_Notice l i m e (by omega) (by omega) (by omega) hl) ?_
            simp [wq1, wq2, hmd, wk0, wpp, we, hr2]
            repeat refine ⟨by first | omega | assumption | (simp only [maxLen]; omega) | (intros; omega) | decide, ?_⟩
            refine hK _ ?_
            clear hK K
            repeat first | refine thenN ?_ | refine thenX ?_ | refine thenR ?_ | refine blockN ?_ | refine blockR ?_ | refine blockX ?_ | refine blockM rfl ?_
            refine ⟨(), ?_⟩
            simp [Weak, TW, wq1, wq2, hmd, wk0, wpp, we, hr2]
          · try simp at h185
            have hcc : ¬ (i < m ∧ m < e) := by omega
            have hr2 : l1 = l := by rw [hl1, symR, ← hss, ← hd, ← he, if_neg hcc]
            refine AWp.skip ?_
            repeat first | refine thenN ?_ | refine thenX ?_ | refine thenR ?_ | refine blockN ?_ | refine blockR ?_ | refine blockX ?_ | refine blockM rfl ?_
            refine ⟨(), ?_⟩
            simp [Weak, TW, wq1, wq2, hmd, wk0, wpp, we, hr2]
        rintro ⟨⟩
        try simp only
        refine AWp.join (ι := Unit) (fun _ => [(0, T.alias (220, 0)), (1, T.val (D.int IntKind.i64 ↑a)), (2, T.val (D.int IntKind.i64 ↑m)), (3, T.val (D.int IntKind.i64 ↑b)), (4, T.val (D.fn 24 [])), (18, T.val (D.int IntKind.i64 ↑d)), (24, T.val (D.int IntKind.i64 ↑e)), (220, T.lent vv true (encNote zn) (noteL l2))]) ?_ ?_
        · skip
          -- region 41
          refine AWp.rseq E_ok [0, 1, 2, 3, 4, 10, 11, 12, 13, 14, 15, 16, 17, 18, 19, 20, 21, 22, 23, 24, 28, 33, 50, 58, 80, 85, 103, 110, 140, 151, 171, 185, 199, 213, 220] fun K hK => ?_
          simp [wq1, wq2, hmd, wk0, wpp, we]
          repeat refine ⟨by first | omega | assumption | (simp only [maxLen]; omega) | (intros; omega) | decide, ?_⟩
          refine hK _ ?_
          clear hK K
          refine AWp.cond rfl (fun h199 => ?_) (fun h199 => ?_)
          · try simp at h199
            have hcc : a < i ∧ i < d := by omega
            have hr3 : symM f l1 a i d = l2 := by rw [hl2, symQ, if_pos hcc]
            -- region 42
            refine AWp.rendL E_ok [0, 1, 2, 3, 4, 10, 11, 12, 13, 14, 15, 16, 17, 18, 19, 20, 21, 22, 23, 24, 28, 33, 50, 58, 80, 85, 103, 110, 140, 151, 171, 185, 199, 213, 220] fun K hK => ?_
            simp [wq1, wq2, hmd, wk0, wpp, we, hr3]
            repeat refine ⟨by first | omega | assumption | (simp only [maxLen]; omega) | (intros; omega) | decide, ?_⟩
            refine meetL.of (ih l1 a i d (by omega) (by omega) (by omega) (by omega) (by omega)) ?_
            simp [wq1, wq2, hmd, wk0, wpp, we, hr3]
            repeat refine ⟨by first | omega | assumption | (simp only [maxLen]; omega) | (intros; omega) | decide, ?_⟩
            refine hK _ ?_
            clear hK K
            repeat first | refine thenN ?_ | refine thenX ?_ | refine thenR ?_ | refine blockN ?_ | refine blockR ?_ | refine blockX ?_ | refine blockM rfl ?_
            refine ⟨(), ?_⟩
            simp [Weak, TW, wq1, wq2, hmd, wk0, wpp, we, hr3]
          · try simp at h199
            have hcc : ¬ (a < i ∧ i < d) := by omega
            have hr3 : l2 = l1 := by rw [hl2, symQ, if_neg hcc]
            refine AWp.skip ?_
            repeat first | refine thenN ?_ | refine thenX ?_ | refine thenR ?_ | refine blockN ?_ | refine blockR ?_ | refine blockX ?_ | refine blockM rfl ?_
            refine ⟨(), ?_⟩
            simp [Weak, TW, wq1, wq2, hmd, wk0, wpp, we, hr3]
        rintro ⟨⟩
        try simp only
        -- region 43
        refine AWp.rseq E_ok [0, 1, 2, 3, 4, 10, 11, 12, 13, 14, 15, 16, 17, 18, 19, 20, 21, 22, 23, 24, 28, 33, 50, 58, 80, 85, 103, 110, 140, 151, 171, 185, 199, 213, 220] fun K hK => ?_
        simp [wq1, wq2, hmd, wk0, wpp, we]
        repeat refine ⟨by first | omega | assumption | (simp only [maxLen]; omega) | (intros; omega) | decide, ?_⟩
        refine hK _ ?_
        clear hK K
        refine AWp.cond rfl (fun h213 => ?_) (fun h213 => ?_)
        · try simp at h213
          have hcc : d < e ∧ e < b := by omega
          have hr4 : symM (f + 1) l a m b = symM f l2 d e b := by rw [hsym, symQ, if_pos hcc]
          -- region 44
          refine AWp.rendL E_ok [0, 1, 2, 3, 4, 10, 11, 12, 13, 14, 15, 16, 17, 18, 19, 20, 21, 22, 23, 24, 28, 33, 50, 58, 80, 85, 103, 110, 140, 151, 171, 185, 199, 213, 220] fun K hK => ?_
          simp [wq1, wq2, hmd, wk0, wpp, we, hr4]
          repeat refine ⟨by first | omega | assumption | (simp only [maxLen]; omega) | (intros; omega) | decide, ?_⟩
          refine meetL.of (ih l2 d e b (by omega) (by omega) (by omega) (by omega) (by omega)) ?_
          simp [wq1, wq2, hmd, wk0, wpp, we, hr4]
          repeat refine ⟨by first | omega | assumption | (simp only [maxLen]; omega) | (intros; omega) | decide, ?_⟩
          refine hK _ ?_
          clear hK K
          repeat first | refine thenN ?_ | refine thenX ?_ | refine thenR ?_ | refine blockN ?_ | refine blockR ?_ | refine blockX ?_ | refine blockM rfl ?_
          first | (simp [hr4]; done) | (simp [hfin]; done) | simp
        · try simp at h213
          have hcc : ¬ (d < e ∧ e < b) := by omega
          have hr4 : symM (f + 1) l a m b = l2 := by rw [hsym, symQ, if_neg hcc]
          refine AWp.skip ?_
          repeat first | refine thenN ?_ | refine thenX ?_ | refine thenR ?_ | refine blockN ?_ | refine blockR ?_ | refine blockX ?_ | refine blockM rfl ?_
          first | (simp [hr4]; done) | (simp [hfin]; done) | simp
end Go.Proofs.YtjpjndfdncalfaaDoor

set_option maxRecDepth 100000
set_option linter.unusedSimpArgs false
set_option linter.unusedVariables false
namespace Go.Proofs.YtjpjndfdncalfaaDoor
open Go Ab Pl
theorem symMerge_ok (f : Nat) : ∀ (l : List Note) (a m b : Nat), a < m → m < b → b ≤ l.length → l.length ≤ 1000000 → b - a ≤ f → MCalls E.P 48 (encNote zn) (noteL l) [.int .i64 (a : Int), .int .i64 (m : Int), .int .i64 (b : Int), .fn 24 []] (noteL (symM f l a m b)) := by
  induction f with
  | zero => intro l a m b h1 h2 h3 h4 h5; omega
  | succ f ih => intro l a m b h1 h2 h3 h4 h5; exact slices_symMergeCmpFunc_api_Notice f ih l a m b h1 h2 h3 h4 h5

end Go.Proofs.YtjpjndfdncalfaaDoor

set_option maxRecDepth 100000
set_option linter.unusedSimpArgs false
set_option linter.unusedVariables false
namespace Go.Proofs.YtjpjndfdncalfaaDoor
open Go Ab Pl
theorem slices_stableCmpFunc_api_Notice (l : List Note) (n : Nat) (hn : n = l.length) (hl : l.length ≤ 1000000) : MCalls E.P 36 (encNote zn) (noteL l) [.int .i64 (n : Int), .fn 24 []] (noteL (stabM l)) := by
  refine MCalls.intro E_ok Tryd.func36 rfl rfl Tryd.ntmps36 Tryd.results36 (Nat.le_of_ble_eq_true rfl) (by simp) fun hok base S0 w0 vv => ?_
  -- region 0
  refine AWp.rseq E_ok [0, 1, 2, 6, 7, 8, 9, 13, 30, 35, 54, 63] fun K hK => ?_
  simp
  repeat refine ⟨by first | omega | assumption | (simp only [maxLen]; omega) | (intros; omega) | decide, ?_⟩
  refine hK _ ?_
  clear hK K
  -- region 1
  refine AWp.rseq E_ok [0, 1, 2, 6, 7, 8, 9, 13, 30, 35, 54, 63] fun K hK => ?_
  simp
  repeat refine ⟨by first | omega | assumption | (simp only [maxLen]; omega) | (intros; omega) | decide, ?_⟩
  refine hK _ ?_
  clear hK K
  refine AWp.seq ?_
  refine AWp.block ?_
  refine AWp.loop (ι := { y : List Note × Nat × Nat // y.1.length = l.length ∧ y.2.1 ≤ n ∧ y.2.2 = y.2.1 + 20 ∧ blkF y.1 y.2.1 y.2.2 n = blkF l 0 20 n }) (fun x => match x with | ⟨⟨l1, a, b⟩, hll, han, hab, heq⟩ => [(0, T.alias (63, 0)), (1, T.val (D.int IntKind.i64 ↑n)), (2, T.val (D.fn 24 [])), (6, T.val (D.int IntKind.i64 20)), (7, T.val (.int .i64 (a : Int))), (8, T.val (.int .i64 (b : Int))), (63, T.lent vv true (encNote zn) (noteL l1))]) (fun x => match x with | ⟨⟨l1, a, b⟩, hll, han, hab, heq⟩ => n + 20 - b) ⟨(l, 0, 20), rfl, Nat.zero_le _, rfl, rfl⟩ ?_ ?_
  · simp [Weak, TW]
  rintro ⟨⟨l1, a, b⟩, hll, han, hab, heq⟩
  simp only
  try simp only at hll
  try simp only at han
  try simp only at hab
  try simp only at heq
  refine AWp.seq ?_
  -- region 2
  refine AWp.rseq E_ok [0, 1, 2, 6, 7, 8, 9, 13, 30, 35, 54, 63] fun K hK => ?_
  simp
  repeat refine ⟨by first | omega | assumption | (simp only [maxLen]; omega) | (intros; omega) | decide, ?_⟩
  refine hK _ ?_
  clear hK K
  refine AWp.cond rfl (fun h13 => ?_) (fun h13 => ?_)
  · try simp at h13
    obtain ⟨b2, hb2⟩ : ∃ z, z = b + 20 := ⟨_, rfl⟩
    have hst : blkF (insS l1 a b) b b2 n = blkF l1 a b n := by rw [hb2]; conv => rhs; rw [blkF]; rw [if_pos (by omega)]
    have w2 : IntKind.i64.wrap ((b : Int) + 20) = (b2 : Int) := by rw [wrap_i64 (by omega) (by omega)]; omega
    refine AWp.skip ?_
    repeat first | refine thenN ?_ | refine thenX ?_ | refine thenR ?_ | refine blockN ?_ | refine blockR ?_ | refine blockX ?_ | refine blockM rfl ?_
    refine AWp.block ?_
    -- region 3
    refine AWp.rseqL E_ok [0, 1, 2, 6, 7, 8, 9, 13, 30, 35, 54, 63] fun K hK => ?_
    simp [w2]
    repeat refine ⟨by first | omega | assumption | (simp only [maxLen]; omega) | (intros; omega) | decide, ?_⟩
    refine meetL.of (slices_insertionSortCmpFunc_api_Notice l1 a b (by omega) (by omega) (by omega)) ?_
    simp [w2]
    repeat refine ⟨by first | omega | assumption | (simp only [maxLen]; omega) | (intros; omega) | decide, ?_⟩
    refine hK _ ?_
    clear hK K
    -- region 4
    refine AWp.rseq E_ok [0, 1, 2, 6, 7, 8, 9, 13, 30, 35, 54, 63] fun K hK => ?_
    simp [w2]
    repeat refine ⟨by first | omega | assumption | (simp only [maxLen]; omega) | (intros; omega) | decide, ?_⟩
    refine hK _ ?_
    clear hK K
    -- region 5
    refine AWp.rend E_ok [0, 1, 2, 6, 7, 8, 9, 13, 30, 35, 54, 63] fun K hK => ?_
    simp [w2]
    repeat refine ⟨by first | omega | assumption | (simp only [maxLen]; omega) | (intros; omega) | decide, ?_⟩
    refine hK _ ?_
    clear hK K
    repeat first | refine thenN ?_ | refine thenX ?_ | refine thenR ?_ | refine blockN ?_ | refine blockR ?_ | refine blockX ?_ | refine blockM rfl ?_
    refine ⟨⟨(insS l1 a b, b, b2), by simp [hll], by dsimp only; omega, by dsimp only; omega, by dsimp only; rw [hst]; exact heq⟩, ?_, by dsimp only; omega⟩
    try dsimp only
    simp [Weak, TW]
  · try simp at h13
    obtain ⟨lb, hlb⟩ : ∃ z, z = insS l1 a n := ⟨_, rfl⟩
    have hend : lb = blkF l 0 20 n := by rw [hlb, ← heq]; conv => rhs; rw [blkF]; rw [if_neg (by omega)]
    have hlbn : lb.length = l.length := by rw [hlb]; simp [hll]
    have hlb' := hlb.symm
    refine AWp.exit ?_
    repeat first | refine thenN ?_ | refine thenX ?_ | refine thenR ?_ | refine blockN ?_ | refine blockR ?_ | refine blockX ?_ | refine blockM rfl ?_
    -- region 6
    refine AWp.rseqL E_ok [0, 1, 2, 6, 7, 8, 9, 13, 30, 35, 54, 63] fun K hK => ?_
    simp [hlb']
    repeat refine ⟨by first | omega | assumption | (simp only [maxLen]; omega) | (intros; omega) | decide, ?_⟩
    refine meetL.of (slices_insertionSortCmpFunc_api_Notice l1 a n (by omega) (by omega) (by omega)) ?_
    simp [hlb']
    repeat refine ⟨by first | omega | assumption | (simp only [maxLen]; omega) | (intros; omega) | decide, ?_⟩
    refine hK _ ?_
    clear hK K
    refine AWp.block ?_
    refine AWp.loop (ι := { y : List Note × Nat // y.1.length = l.length ∧ 0 < y.2 ∧ y.2 ≤ 2000020 ∧ dblF y.1 y.2 n = dblF (blkF l 0 20 n) 20 n }) (fun x => match x with | ⟨⟨l2, s⟩, hl2, hs0, hsm, heq2⟩ => [(0, T.alias (63, 0)), (1, T.val (D.int IntKind.i64 ↑n)), (2, T.val (D.fn 24 [])), (6, T.val (.int .i64 (s : Int))), (7, T.junk), (8, T.junk), (9, T.junk), (63, T.lent vv true (encNote zn) (noteL l2))]) (fun x => match x with | ⟨⟨l2, s⟩, hl2, hs0, hsm, heq2⟩ => n - s) ⟨(lb, 20), hlbn, by dsimp only; omega, by dsimp only; omega, by dsimp only; rw [hend]⟩ ?_ ?_
    · simp [Weak, TW]
    rintro ⟨⟨l2, s⟩, hl2, hs0, hsm, heq2⟩
    simp only
    try simp only at hl2
    try simp only at hs0
    try simp only at hsm
    try simp only at heq2
    refine AWp.seq ?_
    -- region 7
    refine AWp.rseq E_ok [0, 1, 2, 6, 7, 8, 9, 13, 30, 35, 54, 63] fun K hK => ?_
    simp [hlb']
    repeat refine ⟨by first | omega | assumption | (simp only [maxLen]; omega) | (intros; omega) | decide, ?_⟩
    refine hK _ ?_
    clear hK K
    refine AWp.cond rfl (fun h30 => ?_) (fun h30 => ?_)
    · try simp at h30
      obtain ⟨t, ht⟩ : ∃ z, z = 2 * s := ⟨_, rfl⟩
      have w3 : IntKind.i64.wrap (2 * (s : Int)) = (t : Int) := by rw [wrap_i64 (by omega) (by omega)]; omega
      have w4 : IntKind.i64.wrap ((s : Int) * 2) = (t : Int) := by rw [wrap_i64 (by omega) (by omega)]; omega
      refine AWp.skip ?_
      repeat first | refine thenN ?_ | refine thenX ?_ | refine thenR ?_ | refine blockN ?_ | refine blockR ?_ | refine blockX ?_ | refine blockM rfl ?_
      refine AWp.block ?_
      -- region 8
      refine AWp.rseq E_ok [0, 1, 2, 6, 7, 8, 9, 13, 30, 35, 54, 63] fun K hK => ?_
      simp [hlb', w3, w4]
      repeat refine ⟨by first | omega | assumption | (simp only [maxLen]; omega) | (intros; omega) | decide, ?_⟩
      refine hK _ ?_
      clear hK K
      refine AWp.seq ?_
      refine AWp.block ?_
      refine AWp.loop (ι := { y : List Note × Nat × Nat // y.1.length = l.length ∧ y.2.1 ≤ n ∧ y.2.2 = y.2.1 + t ∧ mrgF s y.1 y.2.1 y.2.2 n = mrgF s l2 0 (2 * s) n }) (fun x => match x with | ⟨⟨l3, c, e⟩, hl3, hcn, hce, heq3⟩ => [(0, T.alias (63, 0)), (1, T.val (D.int IntKind.i64 ↑n)), (2, T.val (D.fn 24 [])), (6, T.val (D.int IntKind.i64 ↑s)), (7, T.val (.int .i64 (c : Int))), (8, T.val (.int .i64 (e : Int))), (63, T.lent vv true (encNote zn) (noteL l3))]) (fun x => match x with | ⟨⟨l3, c, e⟩, hl3, hcn, hce, heq3⟩ => n + t - e) ⟨(l2, 0, t), hl2, Nat.zero_le _, by dsimp only; omega, by dsimp only; rw [ht]⟩ ?_ ?_
      · simp [Weak, TW]
      rintro ⟨⟨l3, c, e⟩, hl3, hcn, hce, heq3⟩
      simp only
      try simp only at hl3
      try simp only at hcn
      try simp only at hce
      try simp only at heq3
      refine AWp.seq ?_
      -- region 9
      refine AWp.rseq E_ok [0, 1, 2, 6, 7, 8, 9, 13, 30, 35, 54, 63] fun K hK => ?_
      simp [hlb', w3, w4]
      repeat refine ⟨by first | omega | assumption | (simp only [maxLen]; omega) | (intros; omega) | decide, ?_⟩
      refine hK _ ?_
      clear hK K
      refine AWp.cond rfl (fun h35 => ?_) (fun h35 => ?_)
      · try simp at h35
        obtain ⟨q, hq⟩ : ∃ z, z = c + s := ⟨_, rfl⟩
        obtain ⟨e2, he2⟩ : ∃ z, z = e + t := ⟨_, rfl⟩
        have w5 : IntKind.i64.wrap ((c : Int) + (s : Int)) = (q : Int) := by rw [wrap_i64 (by omega) (by omega)]; omega
        have w6 : IntKind.i64.wrap ((e : Int) + (t : Int)) = (e2 : Int) := by rw [wrap_i64 (by omega) (by omega)]; omega
        have hmg : mrgF s (symM n l3 c q e) e e2 n = mrgF s l3 c e n := by rw [he2, ht, hq]; conv => rhs; rw [mrgF]; rw [if_pos ⟨by omega, hs0⟩]
        refine AWp.skip ?_
        repeat first | refine thenN ?_ | refine thenX ?_ | refine thenR ?_ | refine blockN ?_ | refine blockR ?_ | refine blockX ?_ | refine blockM rfl ?_
        refine AWp.block ?_
        -- region 10
        refine AWp.rseqL E_ok [0, 1, 2, 6, 7, 8, 9, 13, 30, 35, 54, 63] fun K hK => ?_
        simp [hlb', w3, w4, w5, w6]
        repeat refine ⟨by first | omega | assumption | (simp only [maxLen]; omega) | (intros; omega) | decide, ?_⟩
        refine meetL.of (symMerge_ok n l3 c q e (by omega) (by omega) (by omega) (by omega) (by omega)) ?_
        simp [hlb', w3, w4, w5, w6]
        repeat refine ⟨by first | omega | assumption | (simp only [maxLen]; omega) | (intros; omega) | decide, ?_⟩
        refine hK _ ?_
        clear hK K
        -- region 11
        refine AWp.rseq E_ok [0, 1, 2, 6, 7, 8, 9, 13, 30, 35, 54, 63] fun K hK => ?_
        simp [hlb', w3, w4, w5, w6]
        repeat refine ⟨by first | omega | assumption | (simp only [maxLen]; omega) | (intros; omega) | decide, ?_⟩
        refine hK _ ?_
        clear hK K
        -- region 12
        refine AWp.rend E_ok [0, 1, 2, 6, 7, 8, 9, 13, 30, 35, 54, 63] fun K hK => ?_
        simp [hlb', w3, w4, w5, w6]
        repeat refine ⟨by first | omega | assumption | (simp only [maxLen]; omega) | (intros; omega) | decide, ?_⟩
        refine hK _ ?_
        clear hK K
        repeat first | refine thenN ?_ | refine thenX ?_ | refine thenR ?_ | refine blockN ?_ | refine blockR ?_ | refine blockX ?_ | refine blockM rfl ?_
        refine ⟨⟨(symM n l3 c q e, e, e2), by simp [hl3], by dsimp only; omega, by dsimp only; omega, by dsimp only; rw [hmg]; exact heq3⟩, ?_, by dsimp only; omega⟩
        try dsimp only
        simp [Weak, TW]
      · try simp at h35
        obtain ⟨q, hq⟩ : ∃ z, z = c + s := ⟨_, rfl⟩
        have w5 : IntKind.i64.wrap ((c : Int) + (s : Int)) = (q : Int) := by rw [wrap_i64 (by omega) (by omega)]; omega
        obtain ⟨l4, hl4⟩ : ∃ z, z = mrgF s l2 0 (2 * s) n := ⟨_, rfl⟩
        have hl4n : l4.length = l.length := by rw [hl4]; simp [hl2]
        refine AWp.exit ?_
        repeat first | refine thenN ?_ | refine thenX ?_ | refine thenR ?_ | refine blockN ?_ | refine blockR ?_ | refine blockX ?_ | refine blockM rfl ?_
        refine AWp.join (ι := Unit) (fun _ => [(0, T.alias (63, 0)), (1, T.val (D.int IntKind.i64 ↑n)), (2, T.val (D.fn 24 [])), (6, T.val (D.int IntKind.i64 ↑s)), (63, T.lent vv true (encNote zn) (noteL l4))]) ?_ ?_
        · skip
          -- region 13
          refine AWp.rseq E_ok [0, 1, 2, 6, 7, 8, 9, 13, 30, 35, 54, 63] fun K hK => ?_
          simp [hlb', w3, w4, w5]
          repeat refine ⟨by first | omega | assumption | (simp only [maxLen]; omega) | (intros; omega) | decide, ?_⟩
          refine hK _ ?_
          clear hK K
          -- region 14
          refine AWp.rseq E_ok [0, 1, 2, 6, 7, 8, 9, 13, 30, 35, 54, 63] fun K hK => ?_
          simp [hlb', w3, w4, w5]
          repeat refine ⟨by first | omega | assumption | (simp only [maxLen]; omega) | (intros; omega) | decide, ?_⟩
          refine hK _ ?_
          clear hK K
          refine AWp.cond rfl (fun h54 => ?_) (fun h54 => ?_)
          · try simp at h54
            have hr : symM n l3 c q n = l4 := by rw [hl4, ← heq3, hq]; conv => rhs; rw [mrgF]; rw [if_neg (by omega), if_pos (by omega)]
            -- region 15
            refine AWp.rendL E_ok [0, 1, 2, 6, 7, 8, 9, 13, 30, 35, 54, 63] fun K hK => ?_
            simp [hlb', w3, w4, w5, hr]
            repeat refine ⟨by first | omega | assumption | (simp only [maxLen]; omega) | (intros; omega) | decide, ?_⟩
            refine meetL.of (symMerge_ok n l3 c q n (by omega) (by omega) (by omega) (by omega) (by omega)) ?_
            simp [hlb', w3, w4, w5, hr]
            repeat refine ⟨by first | omega | assumption | (simp only [maxLen]; omega) | (intros; omega) | decide, ?_⟩
            refine hK _ ?_
            clear hK K
            repeat first | refine thenN ?_ | refine thenX ?_ | refine thenR ?_ | refine blockN ?_ | refine blockR ?_ | refine blockX ?_ | refine blockM rfl ?_
            refine ⟨(), ?_⟩
            simp [Weak, TW, hlb', w3, w4, w5, hr]
          · try simp at h54
            have hr : l4 = l3 := by rw [hl4, ← heq3, mrgF, if_neg (by omega), if_neg (by omega)]
            refine AWp.skip ?_
            repeat first | refine thenN ?_ | refine thenX ?_ | refine thenR ?_ | refine blockN ?_ | refine blockR ?_ | refine blockX ?_ | refine blockM rfl ?_
            refine ⟨(), ?_⟩
            simp [Weak, TW, hlb', w3, w4, w5, hr]
        rintro ⟨⟩
        try simp only
        -- region 16
        refine AWp.rend E_ok [0, 1, 2, 6, 7, 8, 9, 13, 30, 35, 54, 63] fun K hK => ?_
        simp [hlb', w3, w4, w5]
        repeat refine ⟨by first | omega | assumption | (simp only [maxLen]; omega) | (intros; omega) | decide, ?_⟩
        refine hK _ ?_
        clear hK K
        repeat first | refine thenN ?_ | refine thenX ?_ | refine thenR ?_ | refine blockN ?_ | refine blockR ?_ | refine blockX ?_ | refine blockM rfl ?_
        have hdb : dblF l4 t n = dblF l2 s n := by rw [hl4, show t = s * 2 by omega]; conv => rhs; rw [dblF]; rw [if_pos ⟨by omega, hs0⟩]
        refine ⟨⟨(l4, t), hl4n, by dsimp only; omega, by dsimp only; omega, by dsimp only; rw [hdb]; exact heq2⟩, ?_, by dsimp only; omega⟩
        try dsimp only
        simp [Weak, TW]
    · try simp at h30
      have hfin : stabM l = l2 := by rw [stabM, ← hn, ← heq2, dblF, if_neg (by omega)]
      refine AWp.exit ?_
      repeat first | refine thenN ?_ | refine thenX ?_ | refine thenR ?_ | refine blockN ?_ | refine blockR ?_ | refine blockX ?_ | refine blockM rfl ?_
      simp [hfin]
end Go.Proofs.YtjpjndfdncalfaaDoor

set_option maxRecDepth 100000
set_option linter.unusedSimpArgs false
set_option linter.unusedVariables false
namespace Go.Proofs.YtjpjndfdncalfaaDoor
open Go Ab Pl
theorem slices_SortStableFunc_api_Notice_api_Notice (l : List Note) (hl : l.length ≤ 1000000) : MCalls E.P 23 (encNote zn) (noteL l) [.fn 24 []] (noteL (stabM l)) := by
  refine MCalls.intro E_ok Tryd.func23 rfl rfl Tryd.ntmps23 Tryd.results23 (Nat.le_of_ble_eq_true rfl) (by simp) fun hok base S0 w0 vv => ?_
  -- region 0
  refine AWp.rendL E_ok [0, 1, 9] fun K hK => ?_
  simp
  repeat refine ⟨by first | omega | assumption | (simp only [maxLen]; omega) | (intros; omega) | decide, ?_⟩
  refine meetL.of (slices_stableCmpFunc_api_Notice l l.length rfl hl) ?_
  simp
  repeat refine ⟨by first | omega | assumption | (simp only [maxLen]; omega) | (intros; omega) | decide, ?_⟩
  refine hK _ ?_
  clear hK K
  repeat first | refine thenN ?_ | refine thenX ?_ | refine thenR ?_ | refine blockN ?_ | refine blockR ?_ | refine blockX ?_ | refine blockM rfl ?_
  simp
end Go.Proofs.YtjpjndfdncalfaaDoor

set_option maxRecDepth 100000
set_option linter.unusedSimpArgs false
set_option linter.unusedVariables false
namespace Go.Proofs.YtjpjndfdncalfaaDoor
open Go Ab Pl
theorem notice_Due (c : Circ) (a : Int) (h1 : c.loans.length ≤ 60) (h2 : c.holds.length ≤ 60) : ACalls E.P 12 [encCirc c, .int .i64 a] (.own (encNote zn) (noteL (dueN c a))) := by
  refine ACalls.intro E_ok Tryd.func12 rfl rfl Tryd.ntmps12 Tryd.results12 (Nat.le_of_ble_eq_true rfl) fun hok base S0 w0 => ?_
  -- region 0
  refine AWp.rseq E_ok [0, 1, 2, 4, 5, 7, 9, 11, 12, 13, 14, 26, 27, 28, 29, 34] fun K hK => ?_
  simp [encCirc_eq, encLoans_eq, encLoan_eq, encHlds_eq, encHld_eq, encNote_eq, zn, noteL_app, noteL_one]
  repeat refine ⟨by first | omega | assumption | (simp only [maxLen]; omega) | (intros; omega) | decide, ?_⟩
  refine hK _ ?_
  clear hK K
  -- region 1
  refine AWp.rseq E_ok [0, 1, 2, 4, 5, 7, 9, 11, 12, 13, 14, 26, 27, 28, 29, 34] fun K hK => ?_
  simp [encCirc_eq, encLoans_eq, encLoan_eq, encHlds_eq, encHld_eq, encNote_eq, zn, noteL_app, noteL_one]
  repeat refine ⟨by first | omega | assumption | (simp only [maxLen]; omega) | (intros; omega) | decide, ?_⟩
  refine hK _ ?_
  clear hK K
  refine AWp.seq ?_
  -- region 2
  refine AWp.rseq E_ok [0, 1, 2, 4, 5, 7, 9, 11, 12, 13, 14, 26, 27, 28, 29, 34] fun K hK => ?_
  simp [encCirc_eq, encLoans_eq, encLoan_eq, encHlds_eq, encHld_eq, encNote_eq, zn, noteL_app, noteL_one]
  repeat refine ⟨by first | omega | assumption | (simp only [maxLen]; omega) | (intros; omega) | decide, ?_⟩
  refine hK _ ?_
  clear hK K
  refine AWp.block ?_
  refine AWp.range (l := c.loans) (F := lnF c.today a) (tot := lnF c.today a [] c.loans) (fun k y => match y with | o => o.length ≤ 2 * k) (fun k y => match y with | o => [(0, T.val (D.agg [D.int IntKind.i64 c.today, encItms c.items, encPatrs c.patrons, (D.agg [D.int IntKind.i64 zLoan.item, D.int IntKind.i64 zLoan.patron, D.int IntKind.i64 zLoan.out, D.int IntKind.i64 zLoan.due, D.int IntKind.i64 zLoan.ren, D.bool zLoan.rcl]).slice (List.map encLoan c.loans), (D.agg [D.int IntKind.i64 zHld.id, D.int IntKind.i64 zHld.patron, D.int IntKind.i64 zHld.rcd, D.int IntKind.i64 zHld.item, D.int IntKind.i64 zHld.pick, D.int IntKind.i64 zHld.placed, D.int IntKind.i64 zHld.st, D.int IntKind.i64 zHld.got, D.int IntKind.i64 zHld.til, D.int IntKind.i64 zHld.asleep, D.int IntKind.i64 zHld.rank]).slice (List.map encHld c.holds), encCharges c.charges, encRules c.rules, D.int IntKind.i64 c.cals.c0.week, encInts c.cals.c0.closed, D.int IntKind.i64 c.cals.c1.week, encInts c.cals.c1.closed, D.int IntKind.i64 c.cals.c2.week, encInts c.cals.c2.closed, D.int IntKind.i64 c.cals.c3.week, encInts c.cals.c3.closed, encMoves c.moves, D.int IntKind.i64 c.nh, D.int IntKind.i64 c.nc, D.bool c.loc])), (1, T.val (D.int IntKind.i64 a)), (2, T.box [C.d (D.int IntKind.i64 c.today), C.d (encItms c.items), C.d (encPatrs c.patrons), C.d ((D.agg [D.int IntKind.i64 zLoan.item, D.int IntKind.i64 zLoan.patron, D.int IntKind.i64 zLoan.out, D.int IntKind.i64 zLoan.due, D.int IntKind.i64 zLoan.ren, D.bool zLoan.rcl]).slice (List.map encLoan c.loans)), C.d ((D.agg [D.int IntKind.i64 zHld.id, D.int IntKind.i64 zHld.patron, D.int IntKind.i64 zHld.rcd, D.int IntKind.i64 zHld.item, D.int IntKind.i64 zHld.pick, D.int IntKind.i64 zHld.placed, D.int IntKind.i64 zHld.st, D.int IntKind.i64 zHld.got, D.int IntKind.i64 zHld.til, D.int IntKind.i64 zHld.asleep, D.int IntKind.i64 zHld.rank]).slice (List.map encHld c.holds)), C.d (encCharges c.charges), C.d (encRules c.rules), C.d (D.int IntKind.i64 c.cals.c0.week), C.d (encInts c.cals.c0.closed), C.d (D.int IntKind.i64 c.cals.c1.week), C.d (encInts c.cals.c1.closed), C.d (D.int IntKind.i64 c.cals.c2.week), C.d (encInts c.cals.c2.closed), C.d (D.int IntKind.i64 c.cals.c3.week), C.d (encInts c.cals.c3.closed), C.d (encMoves c.moves), C.d (D.int IntKind.i64 c.nh), C.d (D.int IntKind.i64 c.nc), C.d (D.bool c.loc)]), (5, T.own true (encNote zn) (noteL o)), (11, T.val ((D.agg [D.int IntKind.i64 zLoan.item, D.int IntKind.i64 zLoan.patron, D.int IntKind.i64 zLoan.out, D.int IntKind.i64 zLoan.due, D.int IntKind.i64 zLoan.ren, D.bool zLoan.rcl]).slice (List.map encLoan c.loans))), (12, T.val (D.int IntKind.i64 ↑c.loans.length)), (13, T.val (.int .i64 k))]) ([]) ?_ rfl ?_ ?_
  · simp [Weak, TW, encCirc_eq, encLoans_eq, encLoan_eq, encHlds_eq, encHld_eq, encNote_eq, zn, noteL_app, noteL_one]
  · simp
  rintro k o hk hs hi
  try simp only at hi
  -- region 3
  refine AWp.rseq E_ok [0, 1, 2, 4, 5, 7, 9, 11, 12, 13, 14, 26, 27, 28, 29, 34] fun K hK => ?_
  simp [encCirc_eq, encLoans_eq, encLoan_eq, encHlds_eq, encHld_eq, encNote_eq, zn, noteL_app, noteL_one]
  repeat refine ⟨by first | omega | assumption | (simp only [maxLen]; omega) | (intros; omega) | decide, ?_⟩
  refine hK _ ?_
  clear hK K
  refine AWp.seq ?_
  refine AWp.cond rfl (fun h14 => ?_) (fun h14 => ?_)
  · try simp at h14
    obtain ⟨x, hx, hxx, hd⟩ := at_indexG (l := c.loans) h14
    rw [hd] at hs
    have hll := loanN_len x c.today a
    refine AWp.skip ?_
    repeat first | refine thenN ?_ | refine thenX ?_ | refine thenR ?_ | refine blockN ?_ | refine blockR ?_ | refine blockX ?_ | refine blockM rfl ?_
    refine AWp.seq ?_
    refine AWp.block ?_
    -- region 4
    refine AWp.rseq E_ok [0, 1, 2, 4, 5, 7, 9, 11, 12, 13, 14, 26, 27, 28, 29, 34] fun K hK => ?_
    simp [encCirc_eq, encLoans_eq, encLoan_eq, encHlds_eq, encHld_eq, encNote_eq, zn, noteL_app, noteL_one, h14, hx, hxx]
    repeat refine ⟨by first | omega | assumption | (simp only [maxLen]; omega) | (intros; omega) | decide, ?_⟩
    refine hK _ ?_
    clear hK K
    -- region 5
    refine AWp.rend E_ok [0, 1, 2, 4, 5, 7, 9, 11, 12, 13, 14, 26, 27, 28, 29, 34] fun K hK => ?_
    simp [encCirc_eq, encLoans_eq, encLoan_eq, encHlds_eq, encHld_eq, encNote_eq, zn, noteL_app, noteL_one, h14, hx, hxx]
    repeat refine ⟨by first | omega | assumption | (simp only [maxLen]; omega) | (intros; omega) | decide, ?_⟩
    refine meet.of (loan_ok x c.today a) ?_
    simp [encCirc_eq, encLoans_eq, encLoan_eq, encHlds_eq, encHld_eq, encNote_eq, zn, noteL_app, noteL_one, h14, hx, hxx]
    repeat refine ⟨by first | omega | assumption | (simp only [maxLen]; omega) | (intros; omega) | decide, ?_⟩
    refine hK _ ?_
    clear hK K
    repeat first | refine thenN ?_ | refine thenX ?_ | refine thenR ?_ | refine blockN ?_ | refine blockR ?_ | refine blockX ?_ | refine blockM rfl ?_
    -- region 6
    refine AWp.rend E_ok [0, 1, 2, 4, 5, 7, 9, 11, 12, 13, 14, 26, 27, 28, 29, 34] fun K hK => ?_
    simp [encCirc_eq, encLoans_eq, encLoan_eq, encHlds_eq, encHld_eq, encNote_eq, zn, noteL_app, noteL_one, h14, hx, hxx]
    repeat refine ⟨by first | omega | assumption | (simp only [maxLen]; omega) | (intros; omega) | decide, ?_⟩
    refine hK _ ?_
    clear hK K
    repeat first | refine thenN ?_ | refine thenX ?_ | refine thenR ?_ | refine blockN ?_ | refine blockR ?_ | refine blockX ?_ | refine blockM rfl ?_
    have hw : IntKind.i64.wrap ((k : Int) + 1) = (k : Int) + 1 := by rw [wrap_i64] <;> omega
    skip
    refine ⟨_, h14, hs, ?_, ?_⟩
    · (simp only [List.length_append]; omega)
    · simp [Weak, TW, hw, encCirc_eq, encLoans_eq, encLoan_eq, encHlds_eq, encHld_eq, encNote_eq, zn, noteL_app, noteL_one]
  · try simp at h14
    obtain rfl : k = c.loans.length := by omega
    rw [List.drop_length] at hs
    simp only [lnF] at hs
    have hlo := hs
    refine AWp.exit ?_
    repeat first | refine thenN ?_ | refine thenX ?_ | refine thenR ?_ | refine blockN ?_ | refine blockR ?_ | refine blockX ?_ | refine blockM rfl ?_
    refine AWp.seq ?_
    -- region 7
    refine AWp.rseq E_ok [0, 1, 2, 4, 5, 7, 9, 11, 12, 13, 14, 26, 27, 28, 29, 34] fun K hK => ?_
    simp [encCirc_eq, encLoans_eq, encLoan_eq, encHlds_eq, encHld_eq, encNote_eq, zn, noteL_app, noteL_one, h14]
    repeat refine ⟨by first | omega | assumption | (simp only [maxLen]; omega) | (intros; omega) | decide, ?_⟩
    refine hK _ ?_
    clear hK K
    refine AWp.block ?_
    refine AWp.range (l := c.holds) (F := hlF) (tot := hlF o c.holds) (fun k y => match y with | u => u.length ≤ 120 + k) (fun k y => match y with | u => [(0, T.val (D.agg [D.int IntKind.i64 c.today, encItms c.items, encPatrs c.patrons, (D.agg [D.int IntKind.i64 zLoan.item, D.int IntKind.i64 zLoan.patron, D.int IntKind.i64 zLoan.out, D.int IntKind.i64 zLoan.due, D.int IntKind.i64 zLoan.ren, D.bool zLoan.rcl]).slice (List.map encLoan c.loans), (D.agg [D.int IntKind.i64 zHld.id, D.int IntKind.i64 zHld.patron, D.int IntKind.i64 zHld.rcd, D.int IntKind.i64 zHld.item, D.int IntKind.i64 zHld.pick, D.int IntKind.i64 zHld.placed, D.int IntKind.i64 zHld.st, D.int IntKind.i64 zHld.got, D.int IntKind.i64 zHld.til, D.int IntKind.i64 zHld.asleep, D.int IntKind.i64 zHld.rank]).slice (List.map encHld c.holds), encCharges c.charges, encRules c.rules, D.int IntKind.i64 c.cals.c0.week, encInts c.cals.c0.closed, D.int IntKind.i64 c.cals.c1.week, encInts c.cals.c1.closed, D.int IntKind.i64 c.cals.c2.week, encInts c.cals.c2.closed, D.int IntKind.i64 c.cals.c3.week, encInts c.cals.c3.closed, encMoves c.moves, D.int IntKind.i64 c.nh, D.int IntKind.i64 c.nc, D.bool c.loc])), (1, T.val (D.int IntKind.i64 a)), (5, T.own true (encNote zn) (noteL u)), (26, T.val ((D.agg [D.int IntKind.i64 zHld.id, D.int IntKind.i64 zHld.patron, D.int IntKind.i64 zHld.rcd, D.int IntKind.i64 zHld.item, D.int IntKind.i64 zHld.pick, D.int IntKind.i64 zHld.placed, D.int IntKind.i64 zHld.st, D.int IntKind.i64 zHld.got, D.int IntKind.i64 zHld.til, D.int IntKind.i64 zHld.asleep, D.int IntKind.i64 zHld.rank]).slice (List.map encHld c.holds))), (27, T.val (D.int IntKind.i64 ↑c.holds.length)), (28, T.val (.int .i64 k))]) (o) ?_ rfl ?_ ?_
    · simp [Weak, TW, encCirc_eq, encLoans_eq, encLoan_eq, encHlds_eq, encHld_eq, encNote_eq, zn, noteL_app, noteL_one]
    · omega
    rintro k u hk hs hi
    try simp only at hi
    -- region 8
    refine AWp.rseq E_ok [0, 1, 2, 4, 5, 7, 9, 11, 12, 13, 14, 26, 27, 28, 29, 34] fun K hK => ?_
    simp [encCirc_eq, encLoans_eq, encLoan_eq, encHlds_eq, encHld_eq, encNote_eq, zn, noteL_app, noteL_one, h14]
    repeat refine ⟨by first | omega | assumption | (simp only [maxLen]; omega) | (intros; omega) | decide, ?_⟩
    refine hK _ ?_
    clear hK K
    refine AWp.seq ?_
    refine AWp.cond rfl (fun h29 => ?_) (fun h29 => ?_)
    · try simp at h29
      obtain ⟨x, hx, hxx, hd⟩ := at_indexG (l := c.holds) h29
      rw [hd] at hs
      rw [hlF] at hs
      refine AWp.skip ?_
      repeat first | refine thenN ?_ | refine thenX ?_ | refine thenR ?_ | refine blockN ?_ | refine blockR ?_ | refine blockX ?_ | refine blockM rfl ?_
      refine AWp.seq ?_
      refine AWp.block ?_
      -- region 9
      refine AWp.rseq E_ok [0, 1, 2, 4, 5, 7, 9, 11, 12, 13, 14, 26, 27, 28, 29, 34] fun K hK => ?_
      simp [encCirc_eq, encLoans_eq, encLoan_eq, encHlds_eq, encHld_eq, encNote_eq, zn, noteL_app, noteL_one, h14, h29, hx, hxx]
      repeat refine ⟨by first | omega | assumption | (simp only [maxLen]; omega) | (intros; omega) | decide, ?_⟩
      refine hK _ ?_
      clear hK K
      -- region 10
      refine AWp.rseq E_ok [0, 1, 2, 4, 5, 7, 9, 11, 12, 13, 14, 26, 27, 28, 29, 34] fun K hK => ?_
      simp [encCirc_eq, encLoans_eq, encLoan_eq, encHlds_eq, encHld_eq, encNote_eq, zn, noteL_app, noteL_one, h14, h29, hx, hxx]
      repeat refine ⟨by first | omega | assumption | (simp only [maxLen]; omega) | (intros; omega) | decide, ?_⟩
      refine hK _ ?_
      clear hK K
      refine AWp.cond rfl (fun h34 => ?_) (fun h34 => ?_)
      · try simp at h34
        rw [hldN_y h34] at hs
        -- region 11
        refine AWp.rend E_ok [0, 1, 2, 4, 5, 7, 9, 11, 12, 13, 14, 26, 27, 28, 29, 34] fun K hK => ?_
        simp [encCirc_eq, encLoans_eq, encLoan_eq, encHlds_eq, encHld_eq, encNote_eq, zn, noteL_app, noteL_one, h14, h29, hx, hxx]
        repeat refine ⟨by first | omega | assumption | (simp only [maxLen]; omega) | (intros; omega) | decide, ?_⟩
        refine hK _ ?_
        clear hK K
        repeat first | refine thenN ?_ | refine thenX ?_ | refine thenR ?_ | refine blockN ?_ | refine blockR ?_ | refine blockX ?_ | refine blockM rfl ?_
        -- region 12
        refine AWp.rend E_ok [0, 1, 2, 4, 5, 7, 9, 11, 12, 13, 14, 26, 27, 28, 29, 34] fun K hK => ?_
        simp [encCirc_eq, encLoans_eq, encLoan_eq, encHlds_eq, encHld_eq, encNote_eq, zn, noteL_app, noteL_one, h14, h29, hx, hxx]
        repeat refine ⟨by first | omega | assumption | (simp only [maxLen]; omega) | (intros; omega) | decide, ?_⟩
        refine hK _ ?_
        clear hK K
        repeat first | refine thenN ?_ | refine thenX ?_ | refine thenR ?_ | refine blockN ?_ | refine blockR ?_ | refine blockX ?_ | refine blockM rfl ?_
        have hw : IntKind.i64.wrap ((k : Int) + 1) = (k : Int) + 1 := by rw [wrap_i64] <;> omega
        skip
        refine ⟨_, h29, hs, ?_, ?_⟩
        · first | omega | (simp; omega)
        · simp [Weak, TW, hw, encCirc_eq, encLoans_eq, encLoan_eq, encHlds_eq, encHld_eq, encNote_eq, zn, noteL_app, noteL_one]
      · try simp at h34
        rw [hldN_n h34, List.append_nil] at hs
        refine AWp.skip ?_
        repeat first | refine thenN ?_ | refine thenX ?_ | refine thenR ?_ | refine blockN ?_ | refine blockR ?_ | refine blockX ?_ | refine blockM rfl ?_
        -- region 12
        refine AWp.rend E_ok [0, 1, 2, 4, 5, 7, 9, 11, 12, 13, 14, 26, 27, 28, 29, 34] fun K hK => ?_
        simp [encCirc_eq, encLoans_eq, encLoan_eq, encHlds_eq, encHld_eq, encNote_eq, zn, noteL_app, noteL_one, h14, h29, hx, hxx]
        repeat refine ⟨by first | omega | assumption | (simp only [maxLen]; omega) | (intros; omega) | decide, ?_⟩
        refine hK _ ?_
        clear hK K
        repeat first | refine thenN ?_ | refine thenX ?_ | refine thenR ?_ | refine blockN ?_ | refine blockR ?_ | refine blockX ?_ | refine blockM rfl ?_
        have hw : IntKind.i64.wrap ((k : Int) + 1) = (k : Int) + 1 := by rw [wrap_i64] <;> omega
        skip
        refine ⟨_, h29, hs, ?_, ?_⟩
        · first | omega | (simp; omega)
        · simp [Weak, TW, hw, encCirc_eq, encLoans_eq, encLoan_eq, encHlds_eq, encHld_eq, encNote_eq, zn, noteL_app, noteL_one]
    · try simp at h29
      obtain rfl : k = c.holds.length := by omega
      rw [List.drop_length] at hs
      simp only [hlF] at hs
      have hfin : u = dueL c a := by rw [hs, hlo, hlF_eq, lnF_eq]; simp [dueL]
      refine AWp.exit ?_
      repeat first | refine thenN ?_ | refine thenX ?_ | refine thenR ?_ | refine blockN ?_ | refine blockR ?_ | refine blockX ?_ | refine blockM rfl ?_
      -- region 13
      refine AWp.rseqL E_ok [0, 1, 2, 4, 5, 7, 9, 11, 12, 13, 14, 26, 27, 28, 29, 34] fun K hK => ?_
      simp [encCirc_eq, encLoans_eq, encLoan_eq, encHlds_eq, encHld_eq, encNote_eq, zn, noteL_app, noteL_one, h14, h29]
      repeat refine ⟨by first | omega | assumption | (simp only [maxLen]; omega) | (intros; omega) | decide, ?_⟩
      refine meetL.of (slices_SortStableFunc_api_Notice_api_Notice u (by omega)) ?_
      simp [encCirc_eq, encLoans_eq, encLoan_eq, encHlds_eq, encHld_eq, encNote_eq, zn, noteL_app, noteL_one, h14, h29]
      repeat refine ⟨by first | omega | assumption | (simp only [maxLen]; omega) | (intros; omega) | decide, ?_⟩
      refine hK _ ?_
      clear hK K
      -- region 14
      refine AWp.rseq E_ok [0, 1, 2, 4, 5, 7, 9, 11, 12, 13, 14, 26, 27, 28, 29, 34] fun K hK => ?_
      simp [encCirc_eq, encLoans_eq, encLoan_eq, encHlds_eq, encHld_eq, encNote_eq, zn, noteL_app, noteL_one, h14, h29]
      repeat refine ⟨by first | omega | assumption | (simp only [maxLen]; omega) | (intros; omega) | decide, ?_⟩
      refine hK _ ?_
      clear hK K
      refine AWp.ret ?_
      repeat first | refine thenN ?_ | refine thenX ?_ | refine thenR ?_ | refine blockN ?_ | refine blockR ?_ | refine blockX ?_ | refine blockM rfl ?_
      simp [RetOk, ← hfin, encNote_eq, zn, dueN]
end Go.Proofs.YtjpjndfdncalfaaDoor

set_option maxRecDepth 100000
set_option linter.unusedSimpArgs false
set_option linter.unusedVariables false
namespace Go.Proofs.YtjpjndfdncalfaaDoor
open Go Ab Pl
theorem date_known (n : Int) : ACalls E.P 50 [.int .i64 n] (.d (.bool (isDay n))) := by
  refine ACalls.intro E_ok Tryd.func50 rfl rfl Tryd.ntmps50 Tryd.results50 (Nat.le_of_ble_eq_true rfl) fun hok base S0 w0 => ?_
  -- region 0
  refine AWp.rseq E_ok [0, 2] fun K hK => ?_
  simp
  repeat refine ⟨by first | omega | assumption | (simp only [maxLen]; omega) | (intros; omega) | decide, ?_⟩
  refine hK _ ?_
  clear hK K
  -- region 1
  refine AWp.rseq E_ok [0, 2] fun K hK => ?_
  simp
  repeat refine ⟨by first | omega | assumption | (simp only [maxLen]; omega) | (intros; omega) | decide, ?_⟩
  refine hK _ ?_
  clear hK K
  refine AWp.ret ?_
  repeat first | refine thenN ?_ | refine thenX ?_ | refine thenR ?_ | refine blockN ?_ | refine blockR ?_ | refine blockX ?_ | refine blockM rfl ?_
  simp [RetOk, RV, isDay]
end Go.Proofs.YtjpjndfdncalfaaDoor

set_option maxRecDepth 100000
set_option linter.unusedSimpArgs false
set_option linter.unusedVariables false
namespace Go.Proofs.YtjpjndfdncalfaaDoor
open Go Ab Pl
theorem date_leap (y : Int) (hy : 0 ≤ y) : ACalls E.P 61 [.int .i64 y] (.d (.bool (leapB y))) := by
  refine ACalls.intro E_ok Tryd.func61 rfl rfl Tryd.ntmps61 Tryd.results61 (Nat.le_of_ble_eq_true rfl) fun hok base S0 w0 => ?_
  -- region 0
  refine AWp.rseq E_ok [0, 2] fun K hK => ?_
  simp
  repeat refine ⟨by first | omega | assumption | (simp only [maxLen]; omega) | (intros; omega) | decide, ?_⟩
  refine hK _ ?_
  clear hK K
  -- region 1
  refine AWp.rseq E_ok [0, 2] fun K hK => ?_
  simp
  repeat refine ⟨by first | omega | assumption | (simp only [maxLen]; omega) | (intros; omega) | decide, ?_⟩
  refine hK _ ?_
  clear hK K
  refine AWp.ret ?_
  repeat first | refine thenN ?_ | refine thenX ?_ | refine thenR ?_ | refine blockN ?_ | refine blockR ?_ | refine blockX ?_ | refine blockM rfl ?_
  simp [RetOk, RV, RVs, Int.tmod_eq_emod_of_nonneg hy]; rw [Bool.eq_iff_iff]; simp [leapB]
end Go.Proofs.YtjpjndfdncalfaaDoor

set_option maxRecDepth 100000
set_option linter.unusedSimpArgs false
set_option linter.unusedVariables false
namespace Go.Proofs.YtjpjndfdncalfaaDoor
open Go Ab Pl
theorem date_newYear (y : Int) (hy : 1900 ≤ y ∧ y ≤ 2200) : ACalls E.P 51 [.int .i64 y] (.d (.int .i64 (nyD y))) := by
  refine ACalls.intro E_ok Tryd.func51 rfl rfl Tryd.ntmps51 Tryd.results51 (Nat.le_of_ble_eq_true rfl) fun hok base S0 w0 => ?_
  have e1 : IntKind.i64.wrap (y - 1900) = y - 1900 := by rw [wrap_i64] <;> omega
  have e2 : IntKind.i64.wrap ((y - 1900) * 365) = (y - 1900) * 365 := by rw [wrap_i64] <;> omega
  have hr := ny_rng hy.1 hy.2
  -- region 0
  refine AWp.rseq E_ok [0, 2, 3, 4, 5, 12, 16] fun K hK => ?_
  simp [ny_first, e1, e2]
  repeat refine ⟨by first | omega | assumption | (simp only [maxLen]; omega) | (intros; omega) | decide, ?_⟩
  refine hK _ ?_
  clear hK K
  -- region 1
  refine AWp.rseq E_ok [0, 2, 3, 4, 5, 12, 16] fun K hK => ?_
  simp [ny_first, e1, e2]
  repeat refine ⟨by first | omega | assumption | (simp only [maxLen]; omega) | (intros; omega) | decide, ?_⟩
  refine hK _ ?_
  clear hK K
  -- region 2
  refine AWp.rseq E_ok [0, 2, 3, 4, 5, 12, 16] fun K hK => ?_
  simp [ny_first, e1, e2]
  repeat refine ⟨by first | omega | assumption | (simp only [maxLen]; omega) | (intros; omega) | decide, ?_⟩
  refine hK _ ?_
  clear hK K
  refine AWp.seq ?_
  -- region 3
  refine AWp.rseq E_ok [0, 2, 3, 4, 5, 12, 16] fun K hK => ?_
  simp [ny_first, e1, e2]
  repeat refine ⟨by first | omega | assumption | (simp only [maxLen]; omega) | (intros; omega) | decide, ?_⟩
  refine hK _ ?_
  clear hK K
  refine AWp.block ?_
  refine AWp.loop (ι := { k : Int // 1900 ≤ k ∧ k ≤ y }) (fun x => match x with | ⟨k, hk, hk2⟩ => [(0, T.val (D.int IntKind.i64 y)), (4, T.val (.int .i64 ((y - 1900) * 365 + (nyD k - 365 * (k - 1900))))), (5, T.val (.int .i64 k))]) (fun x => match x with | ⟨k, hk, hk2⟩ => (y - k).toNat) ⟨1900, Int.le_refl _, hy.1⟩ ?_ ?_
  · simp [Weak, TW, ny_first]
  rintro ⟨k, hk, hk2⟩
  simp only
  try simp only at hk
  try simp only at hk2
  refine AWp.seq ?_
  -- region 4
  refine AWp.rseq E_ok [0, 2, 3, 4, 5, 12, 16] fun K hK => ?_
  simp [ny_first, e1, e2]
  repeat refine ⟨by first | omega | assumption | (simp only [maxLen]; omega) | (intros; omega) | decide, ?_⟩
  refine hK _ ?_
  clear hK K
  refine AWp.cond rfl (fun h12 => ?_) (fun h12 => ?_)
  · try simp at h12
    refine AWp.skip ?_
    repeat first | refine thenN ?_ | refine thenX ?_ | refine thenR ?_ | refine blockN ?_ | refine blockR ?_ | refine blockX ?_ | refine blockM rfl ?_
    refine AWp.seq ?_
    refine AWp.block ?_
    -- region 6
    refine AWp.rseq E_ok [0, 2, 3, 4, 5, 12, 16] fun K hK => ?_
    simp [ny_first, e1, e2]
    repeat refine ⟨by first | omega | assumption | (simp only [maxLen]; omega) | (intros; omega) | decide, ?_⟩
    refine meet.of (date_leap k (by omega)) ?_
    simp [ny_first, e1, e2]
    repeat refine ⟨by first | omega | assumption | (simp only [maxLen]; omega) | (intros; omega) | decide, ?_⟩
    refine hK _ ?_
    clear hK K
    refine AWp.cond rfl (fun h16 => ?_) (fun h16 => ?_)
    · try simp at h16
      -- region 7
      refine AWp.rend E_ok [0, 2, 3, 4, 5, 12, 16] fun K hK => ?_
      simp [ny_first, e1, e2]
      repeat refine ⟨by first | omega | assumption | (simp only [maxLen]; omega) | (intros; omega) | decide, ?_⟩
      refine hK _ ?_
      clear hK K
      repeat first | refine thenN ?_ | refine thenX ?_ | refine thenR ?_ | refine blockN ?_ | refine blockR ?_ | refine blockX ?_ | refine blockM rfl ?_
      -- region 5
      refine AWp.rend E_ok [0, 2, 3, 4, 5, 12, 16] fun K hK => ?_
      simp [ny_first, e1, e2]
      repeat refine ⟨by first | omega | assumption | (simp only [maxLen]; omega) | (intros; omega) | decide, ?_⟩
      refine hK _ ?_
      clear hK K
      repeat first | refine thenN ?_ | refine thenX ?_ | refine thenR ?_ | refine blockN ?_ | refine blockR ?_ | refine blockX ?_ | refine blockM rfl ?_
      have hw : IntKind.i64.wrap (k + 1) = k + 1 := by rw [wrap_i64] <;> omega
      have st := ny_step hk (by omega)
      have hr2 := ny_rng hk (by omega)
      refine ⟨⟨k + 1, by omega, by omega⟩, ?_, by simp only; omega⟩
      first | (have hw2 : IntKind.i64.wrap ((y - 1900) * 365 + (nyD k - 365 * (k - 1900)) + 1) = (y - 1900) * 365 + (nyD k - 365 * (k - 1900)) + 1 := by rw [wrap_i64] <;> omega) | skip
      simp [Weak, TW, hw, hw2]
      simp [yearD, h16] at st
      omega
    · try simp at h16
      refine AWp.skip ?_
      repeat first | refine thenN ?_ | refine thenX ?_ | refine thenR ?_ | refine blockN ?_ | refine blockR ?_ | refine blockX ?_ | refine blockM rfl ?_
      -- region 5
      refine AWp.rend E_ok [0, 2, 3, 4, 5, 12, 16] fun K hK => ?_
      simp [ny_first, e1, e2]
      repeat refine ⟨by first | omega | assumption | (simp only [maxLen]; omega) | (intros; omega) | decide, ?_⟩
      refine hK _ ?_
      clear hK K
      repeat first | refine thenN ?_ | refine thenX ?_ | refine thenR ?_ | refine blockN ?_ | refine blockR ?_ | refine blockX ?_ | refine blockM rfl ?_
      have hw : IntKind.i64.wrap (k + 1) = k + 1 := by rw [wrap_i64] <;> omega
      have st := ny_step hk (by omega)
      have hr2 := ny_rng hk (by omega)
      refine ⟨⟨k + 1, by omega, by omega⟩, ?_, by simp only; omega⟩
      first | (have hw2 : IntKind.i64.wrap ((y - 1900) * 365 + (nyD k - 365 * (k - 1900)) + 1) = (y - 1900) * 365 + (nyD k - 365 * (k - 1900)) + 1 := by rw [wrap_i64] <;> omega) | skip
      simp [Weak, TW, hw, hw2]
      simp [yearD, h16] at st
      omega
  · try simp at h12
    refine AWp.exit ?_
    repeat first | refine thenN ?_ | refine thenX ?_ | refine thenR ?_ | refine blockN ?_ | refine blockR ?_ | refine blockX ?_ | refine blockM rfl ?_
    -- region 8
    refine AWp.rseq E_ok [0, 2, 3, 4, 5, 12, 16] fun K hK => ?_
    simp [ny_first, e1, e2]
    repeat refine ⟨by first | omega | assumption | (simp only [maxLen]; omega) | (intros; omega) | decide, ?_⟩
    refine hK _ ?_
    clear hK K
    refine AWp.ret ?_
    repeat first | refine thenN ?_ | refine thenX ?_ | refine thenR ?_ | refine blockN ?_ | refine blockR ?_ | refine blockX ?_ | refine blockM rfl ?_
    obtain rfl : k = y := (by omega); simp [RetOk, RV, RVs]; omega
end Go.Proofs.YtjpjndfdncalfaaDoor

set_option maxRecDepth 100000
set_option linter.unusedSimpArgs false
set_option linter.unusedVariables false
namespace Go.Proofs.YtjpjndfdncalfaaDoor
open Go Ab Pl
theorem date_before (y m : Int) (hy : 1900 ≤ y ∧ y ≤ 2199) (hm : 1 ≤ m ∧ m ≤ 12) : ACalls E.P 52 [.int .i64 y, .int .i64 m] (.d (.int .i64 (befD y m))) := by
  refine ACalls.intro E_ok Tryd.func52 rfl rfl Tryd.ntmps52 Tryd.results52 (Nat.le_of_ble_eq_true rfl) fun hok base S0 w0 => ?_
  have e1 : IntKind.i64.wrap (m - 1) = m - 1 := by rw [wrap_i64] <;> omega
  have tg := bef_arr (m := m) (by omega)
  have br := befT_rng m
  have e2 : IntKind.i64.wrap (befT m + 1) = befT m + 1 := by rw [wrap_i64] <;> omega
  -- region 0
  refine AWp.rseq E_ok [0, 1, 4, 5, 15] fun K hK => ?_
  simp [e1, tg, e2]
  repeat refine ⟨by first | omega | assumption | (simp only [maxLen]; omega) | (intros; omega) | decide, ?_⟩
  refine hK _ ?_
  clear hK K
  -- region 1
  refine AWp.rseq E_ok [0, 1, 4, 5, 15] fun K hK => ?_
  simp [e1, tg, e2]
  repeat refine ⟨by first | omega | assumption | (simp only [maxLen]; omega) | (intros; omega) | decide, ?_⟩
  refine hK _ ?_
  clear hK K
  refine AWp.seq ?_
  -- region 2
  refine AWp.rseq E_ok [0, 1, 4, 5, 15] fun K hK => ?_
  simp [e1, tg, e2]
  repeat refine ⟨by first | omega | assumption | (simp only [maxLen]; omega) | (intros; omega) | decide, ?_⟩
  refine meet.of (date_leap y (by omega)) ?_
  simp [e1, tg, e2]
  repeat refine ⟨by first | omega | assumption | (simp only [maxLen]; omega) | (intros; omega) | decide, ?_⟩
  refine hK _ ?_
  clear hK K
  refine AWp.cond rfl (fun h15 => ?_) (fun h15 => ?_)
  · try simp at h15
    have hb : befD y m = befT m + 1 := by unfold befD; rw [if_pos h15]
    -- region 3
    refine AWp.rend E_ok [0, 1, 4, 5, 15] fun K hK => ?_
    simp [e1, tg, e2]
    repeat refine ⟨by first | omega | assumption | (simp only [maxLen]; omega) | (intros; omega) | decide, ?_⟩
    refine hK _ ?_
    clear hK K
    repeat first | refine thenN ?_ | refine thenX ?_ | refine thenR ?_ | refine blockN ?_ | refine blockR ?_ | refine blockX ?_ | refine blockM rfl ?_
    -- region 4
    refine AWp.rseq E_ok [0, 1, 4, 5, 15] fun K hK => ?_
    simp [e1, tg, e2]
    repeat refine ⟨by first | omega | assumption | (simp only [maxLen]; omega) | (intros; omega) | decide, ?_⟩
    refine hK _ ?_
    clear hK K
    refine AWp.ret ?_
    repeat first | refine thenN ?_ | refine thenX ?_ | refine thenR ?_ | refine blockN ?_ | refine blockR ?_ | refine blockX ?_ | refine blockM rfl ?_
    simp [RetOk, RV, RVs, hb]
  · try simp at h15
    have hb : befD y m = befT m := by unfold befD; rw [if_neg (by simpa using h15)]; omega
    refine AWp.skip ?_
    repeat first | refine thenN ?_ | refine thenX ?_ | refine thenR ?_ | refine blockN ?_ | refine blockR ?_ | refine blockX ?_ | refine blockM rfl ?_
    -- region 4
    refine AWp.rseq E_ok [0, 1, 4, 5, 15] fun K hK => ?_
    simp [e1, tg, e2]
    repeat refine ⟨by first | omega | assumption | (simp only [maxLen]; omega) | (intros; omega) | decide, ?_⟩
    refine hK _ ?_
    clear hK K
    refine AWp.ret ?_
    repeat first | refine thenN ?_ | refine thenX ?_ | refine thenR ?_ | refine blockN ?_ | refine blockR ?_ | refine blockX ?_ | refine blockM rfl ?_
    simp [RetOk, RV, RVs, hb]
end Go.Proofs.YtjpjndfdncalfaaDoor

set_option maxRecDepth 100000
set_option linter.unusedSimpArgs false
set_option linter.unusedVariables false
namespace Go.Proofs.YtjpjndfdncalfaaDoor
open Go Ab Pl
theorem date_Parts (day : Int) : ACalls E.P 42 [.int .i64 day] (.tup [.int .i64 (partsR day).1, .int .i64 (partsR day).2.1, .int .i64 (partsR day).2.2.1, .int .i64 (partsR day).2.2.2]) := by
  refine ACalls.intro E_ok Tryd.func42 rfl rfl Tryd.ntmps42 Tryd.results42 (Nat.le_of_ble_eq_true rfl) fun hok base S0 w0 => ?_
  -- region 0
  refine AWp.rseq E_ok [0, 2, 3, 4, 5, 6, 7, 8, 11, 23, 34] fun K hK => ?_
  simp [isDay]
  try simp (disch := omega) only [wrap_i64]
  repeat refine ⟨by first | omega | assumption | (simp only [maxLen]; omega) | (intros; omega) | decide, ?_⟩
  refine hK _ ?_
  clear hK K
  refine AWp.seq ?_
  -- region 1
  refine AWp.rseq E_ok [0, 2, 3, 4, 5, 6, 7, 8, 11, 23, 34] fun K hK => ?_
  simp [isDay]
  try simp (disch := omega) only [wrap_i64]
  repeat refine ⟨by first | omega | assumption | (simp only [maxLen]; omega) | (intros; omega) | decide, ?_⟩
  refine meet.of (date_known day) ?_
  simp [isDay]
  try simp (disch := omega) only [wrap_i64]
  repeat refine ⟨by first | omega | assumption | (simp only [maxLen]; omega) | (intros; omega) | decide, ?_⟩
  refine hK _ ?_
  clear hK K
  refine AWp.cond rfl (fun h11 => ?_) (fun h11 => ?_)
  · try simp at h11
    -- region 2
    refine AWp.rseq E_ok [0, 2, 3, 4, 5, 6, 7, 8, 11, 23, 34] fun K hK => ?_
    simp [isDay]
    try simp (disch := omega) only [wrap_i64]
    repeat refine ⟨by first | omega | assumption | (simp only [maxLen]; omega) | (intros; omega) | decide, ?_⟩
    refine hK _ ?_
    clear hK K
    refine AWp.ret ?_
    repeat first | refine thenN ?_ | refine thenX ?_ | refine thenR ?_ | refine blockN ?_ | refine blockR ?_ | refine blockX ?_ | refine blockM rfl ?_
    first | (rw [partsR_bad (by omega)]; simp [RetOk, RV, RVs]; done) | (rw [partsR_ok (by omega)]; simp [RetOk, RV, RVs, hp])
  · try simp at h11
    have e0 : day.tdiv 366 = day / 366 := Int.tdiv_eq_ediv_of_nonneg (by omega)
    have e1 : IntKind.i64.wrap (day / 366) = day / 366 := by rw [wrap_i64] <;> omega
    have e2 : IntKind.i64.wrap (1900 + day / 366) = 1900 + day / 366 := by rw [wrap_i64] <;> omega
    refine AWp.skip ?_
    repeat first | refine thenN ?_ | refine thenX ?_ | refine thenR ?_ | refine blockN ?_ | refine blockR ?_ | refine blockX ?_ | refine blockM rfl ?_
    -- region 3
    refine AWp.rseq E_ok [0, 2, 3, 4, 5, 6, 7, 8, 11, 23, 34] fun K hK => ?_
    simp [isDay, e0, e1, e2]
    try simp (disch := omega) only [wrap_i64]
    repeat refine ⟨by first | omega | assumption | (simp only [maxLen]; omega) | (intros; omega) | decide, ?_⟩
    refine hK _ ?_
    clear hK K
    refine AWp.seq ?_
    refine AWp.block ?_
    refine AWp.loop (ι := { y : Int // 1900 ≤ y ∧ y ≤ 2199 ∧ nyD y ≤ day }) (fun x => match x with | ⟨y, hy⟩ => [(0, T.val (D.int IntKind.i64 day)), (6, T.val (.int .i64 y))]) (fun x => match x with | ⟨y, hy⟩ => (2200 - y).toNat) ⟨1900 + day / 366, by omega, by omega, by have := ny_rng (y := 1900 + day / 366) (by omega) (by omega); omega⟩ ?_ ?_
    · simp [Weak, TW, isDay]
    rintro ⟨y, hy⟩
    simp only
    try simp only at hy
    refine AWp.seq ?_
    -- region 4
    refine AWp.rseq E_ok [0, 2, 3, 4, 5, 6, 7, 8, 11, 23, 34] fun K hK => ?_
    simp [isDay, e0, e1, e2]
    try simp (disch := omega) only [wrap_i64]
    repeat refine ⟨by first | omega | assumption | (simp only [maxLen]; omega) | (intros; omega) | decide, ?_⟩
    refine meet.of (date_newYear (y + 1) (by omega)) ?_
    simp [isDay, e0, e1, e2]
    try simp (disch := omega) only [wrap_i64]
    repeat refine ⟨by first | omega | assumption | (simp only [maxLen]; omega) | (intros; omega) | decide, ?_⟩
    refine hK _ ?_
    clear hK K
    refine AWp.cond rfl (fun h23 => ?_) (fun h23 => ?_)
    · try simp at h23
      refine AWp.skip ?_
      repeat first | refine thenN ?_ | refine thenX ?_ | refine thenR ?_ | refine blockN ?_ | refine blockR ?_ | refine blockX ?_ | refine blockM rfl ?_
      refine AWp.block ?_
      -- region 5
      refine AWp.rend E_ok [0, 2, 3, 4, 5, 6, 7, 8, 11, 23, 34] fun K hK => ?_
      simp [isDay, e0, e1, e2]
      try simp (disch := omega) only [wrap_i64]
      repeat refine ⟨by first | omega | assumption | (simp only [maxLen]; omega) | (intros; omega) | decide, ?_⟩
      refine hK _ ?_
      clear hK K
      repeat first | refine thenN ?_ | refine thenX ?_ | refine thenR ?_ | refine blockN ?_ | refine blockR ?_ | refine blockX ?_ | refine blockM rfl ?_
      refine ⟨⟨y + 1, by omega, by omega, by omega⟩, ?_, by simp only; omega⟩
      have hw : IntKind.i64.wrap (y + 1) = y + 1 := by rw [wrap_i64] <;> omega
      simp [Weak, TW, hw]
    · try simp at h23
      have hy3 : day < nyD (y + 1) := by rcases (show y < 2199 ∨ y = 2199 by omega) with hh | hh <;> first | (have := h23 hh; omega) | (rw [show y + 1 = 2200 by omega, ny_end]; omega)
      have nr := ny_rng hy.1 (by omega)
      have e3 : IntKind.i64.wrap (day - nyD y) = day - nyD y := by rw [wrap_i64] <;> omega
      have st := ny_step hy.1 hy.2.1
      have be := bef_end hy.1 hy.2.1
      refine AWp.exit ?_
      repeat first | refine thenN ?_ | refine thenX ?_ | refine thenR ?_ | refine blockN ?_ | refine blockR ?_ | refine blockX ?_ | refine blockM rfl ?_
      -- region 6
      refine AWp.rseq E_ok [0, 2, 3, 4, 5, 6, 7, 8, 11, 23, 34] fun K hK => ?_
      simp [isDay, e0, e1, e2, e3]
      try simp (disch := omega) only [wrap_i64]
      repeat refine ⟨by first | omega | assumption | (simp only [maxLen]; omega) | (intros; omega) | decide, ?_⟩
      refine meet.of (date_newYear y (by omega)) ?_
      simp [isDay, e0, e1, e2, e3]
      try simp (disch := omega) only [wrap_i64]
      repeat refine ⟨by first | omega | assumption | (simp only [maxLen]; omega) | (intros; omega) | decide, ?_⟩
      refine hK _ ?_
      clear hK K
      -- region 7
      refine AWp.rseq E_ok [0, 2, 3, 4, 5, 6, 7, 8, 11, 23, 34] fun K hK => ?_
      simp [isDay, e0, e1, e2, e3]
      try simp (disch := omega) only [wrap_i64]
      repeat refine ⟨by first | omega | assumption | (simp only [maxLen]; omega) | (intros; omega) | decide, ?_⟩
      refine hK _ ?_
      clear hK K
      refine AWp.seq ?_
      refine AWp.block ?_
      refine AWp.loop (ι := { m : Int // 1 ≤ m ∧ m ≤ 12 ∧ day - nyD y < befD y (m + 1) }) (fun x => match x with | ⟨m, hm⟩ => [(0, T.val (D.int IntKind.i64 day)), (6, T.val (D.int IntKind.i64 y)), (7, T.val (D.int IntKind.i64 (day - nyD y))), (8, T.val (.int .i64 m))]) (fun x => match x with | ⟨m, hm⟩ => m.toNat) ⟨12, by omega, by omega, by rw [show (12 : Int) + 1 = 13 from rfl, be]; omega⟩ ?_ ?_
      · simp [Weak, TW, isDay]
      rintro ⟨m, hm⟩
      simp only
      try simp only at hm
      refine AWp.seq ?_
      -- region 8
      refine AWp.rseq E_ok [0, 2, 3, 4, 5, 6, 7, 8, 11, 23, 34] fun K hK => ?_
      simp [isDay, e0, e1, e2, e3]
      try simp (disch := omega) only [wrap_i64]
      repeat refine ⟨by first | omega | assumption | (simp only [maxLen]; omega) | (intros; omega) | decide, ?_⟩
      refine meet.of (date_before y m (by omega) (by omega)) ?_
      simp [isDay, e0, e1, e2, e3]
      try simp (disch := omega) only [wrap_i64]
      repeat refine ⟨by first | omega | assumption | (simp only [maxLen]; omega) | (intros; omega) | decide, ?_⟩
      refine hK _ ?_
      clear hK K
      refine AWp.cond rfl (fun h34 => ?_) (fun h34 => ?_)
      · try simp at h34
        refine AWp.skip ?_
        repeat first | refine thenN ?_ | refine thenX ?_ | refine thenR ?_ | refine blockN ?_ | refine blockR ?_ | refine blockX ?_ | refine blockM rfl ?_
        refine AWp.block ?_
        -- region 9
        refine AWp.rend E_ok [0, 2, 3, 4, 5, 6, 7, 8, 11, 23, 34] fun K hK => ?_
        simp [isDay, e0, e1, e2, e3]
        try simp (disch := omega) only [wrap_i64]
        repeat refine ⟨by first | omega | assumption | (simp only [maxLen]; omega) | (intros; omega) | decide, ?_⟩
        refine hK _ ?_
        clear hK K
        repeat first | refine thenN ?_ | refine thenX ?_ | refine thenR ?_ | refine blockN ?_ | refine blockR ?_ | refine blockX ?_ | refine blockM rfl ?_
        have hm2 : 2 ≤ m := by rcases (show 2 ≤ m ∨ m = 1 by omega) with hh | hh <;> first | exact hh | (exfalso; subst hh; rw [bef_first] at h34; omega)
        refine ⟨⟨m - 1, by omega, by omega, by rw [show m - 1 + 1 = m by omega]; omega⟩, ?_, by simp only; omega⟩
        have hw : IntKind.i64.wrap (m - 1) = m - 1 := by rw [wrap_i64] <;> omega
        simp [Weak, TW, hw]
      · try simp at h34
        have b1 := bef_mono (y := y) (m := 1) (n := m) (by omega) (by omega) hm.1
        rw [bef_first] at b1
        have hp := parts_eq (parts_mk hy.1 hy.2.1 hm.1 hm.2.1 (day := day) (by omega) (by omega))
        have e4 : IntKind.i64.wrap (day - nyD y - befD y m) = day - nyD y - befD y m := by rw [wrap_i64] <;> omega
        have e5 : IntKind.i64.wrap (day - nyD y - befD y m + 1) = day - nyD y - befD y m + 1 := by rw [wrap_i64] <;> omega
        refine AWp.exit ?_
        repeat first | refine thenN ?_ | refine thenX ?_ | refine thenR ?_ | refine blockN ?_ | refine blockR ?_ | refine blockX ?_ | refine blockM rfl ?_
        -- region 10
        refine AWp.rseq E_ok [0, 2, 3, 4, 5, 6, 7, 8, 11, 23, 34] fun K hK => ?_
        simp [isDay, e0, e1, e2, e3, e4, e5]
        try simp (disch := omega) only [wrap_i64]
        repeat refine ⟨by first | omega | assumption | (simp only [maxLen]; omega) | (intros; omega) | decide, ?_⟩
        refine meet.of (date_before y m (by omega) (by omega)) ?_
        simp [isDay, e0, e1, e2, e3, e4, e5]
        try simp (disch := omega) only [wrap_i64]
        repeat refine ⟨by first | omega | assumption | (simp only [maxLen]; omega) | (intros; omega) | decide, ?_⟩
        refine hK _ ?_
        clear hK K
        refine AWp.ret ?_
        repeat first | refine thenN ?_ | refine thenX ?_ | refine thenR ?_ | refine blockN ?_ | refine blockR ?_ | refine blockX ?_ | refine blockM rfl ?_
        first | (rw [partsR_bad (by omega)]; simp [RetOk, RV, RVs]; done) | (rw [partsR_ok (by omega)]; simp [RetOk, RV, RVs, hp])
end Go.Proofs.YtjpjndfdncalfaaDoor
