/-
  What the functions compute that the statement reaches: contracts, and the plain laws between them. Conditions stand at each theorem.
-/
import Derived.Test.YtjljjnipjhbeaaaGreatDoorWalkThree
set_option linter.unusedVariables false
set_option linter.unusedSimpArgs false
set_option maxRecDepth 100000
set_option linter.unusedSimpArgs false
set_option linter.unusedVariables false
namespace Go.Proofs.YtjljjnipjhbeaaaGreatDoor
open Go Ab Pl
theorem law05_BarcodeBooks (s : List UInt8) (at' : Int) : ACalls E.P 10 [.str s, .int .u8 at'] (.d (.bool true)) := by
  refine ACalls.intro E_ok Tryz.func10 rfl rfl Tryz.ntmps10 Tryz.results10 (Nat.le_of_ble_eq_true rfl) fun hok base S0 w0 => ?_
  -- region 0
  refine AWp.rseq E_ok [0, 1, 4, 5, 6, 7, 8, 9, 10, 11, 12, 13, 16, 24, 32] fun K hK => ?_
  simp
  repeat refine ⟨by first | omega | assumption | (simp only [maxLen]; omega) | (intros; omega) | decide, ?_⟩
  refine hK _ ?_
  clear hK K
  refine AWp.seq ?_
  -- region 1
  refine AWp.rseq E_ok [0, 1, 4, 5, 6, 7, 8, 9, 10, 11, 12, 13, 16, 24, 32] fun K hK => ?_
  simp
  repeat refine ⟨by first | omega | assumption | (simp only [maxLen]; omega) | (intros; omega) | decide, ?_⟩
  refine hK _ ?_
  clear hK K
  refine AWp.cond rfl (fun h16 => ?_) (fun h16 => ?_)
  · try simp at h16
    -- region 2
    refine AWp.rseq E_ok [0, 1, 4, 5, 6, 7, 8, 9, 10, 11, 12, 13, 16, 24, 32] fun K hK => ?_
    simp [h16]
    repeat refine ⟨by first | omega | assumption | (simp only [maxLen]; omega) | (intros; omega) | decide, ?_⟩
    refine meet.of (law05_alive) ?_
    simp [h16]
    repeat refine ⟨by first | omega | assumption | (simp only [maxLen]; omega) | (intros; omega) | decide, ?_⟩
    refine hK _ ?_
    clear hK K
    refine AWp.ret ?_
    repeat first | refine thenN ?_ | refine thenX ?_ | refine thenR ?_ | refine blockN ?_ | refine blockR ?_ | refine blockX ?_ | refine blockM rfl ?_
    simp [RetOk, RV]
  · try simp at h16
    refine AWp.skip ?_
    repeat first | refine thenN ?_ | refine thenX ?_ | refine thenR ?_ | refine blockN ?_ | refine blockR ?_ | refine blockX ?_ | refine blockM rfl ?_
    -- region 3
    refine AWp.rseq E_ok [0, 1, 4, 5, 6, 7, 8, 9, 10, 11, 12, 13, 16, 24, 32] fun K hK => ?_
    simp [h16]
    repeat refine ⟨by first | omega | assumption | (simp only [maxLen]; omega) | (intros; omega) | decide, ?_⟩
    refine meet.of (barcode_Isbn s (by omega)) ?_
    simp [h16]
    repeat refine ⟨by first | omega | assumption | (simp only [maxLen]; omega) | (intros; omega) | decide, ?_⟩
    refine hK _ ?_
    clear hK K
    refine AWp.seq ?_
    -- region 4
    refine AWp.rseq E_ok [0, 1, 4, 5, 6, 7, 8, 9, 10, 11, 12, 13, 16, 24, 32] fun K hK => ?_
    simp [h16]
    repeat refine ⟨by first | omega | assumption | (simp only [maxLen]; omega) | (intros; omega) | decide, ?_⟩
    refine hK _ ?_
    clear hK K
    refine AWp.cond rfl (fun h24 => ?_) (fun h24 => ?_)
    · try simp at h24
      have hb : (isbR s).1 = [] := isb_bad h24
      -- region 5
      refine AWp.rseq E_ok [0, 1, 4, 5, 6, 7, 8, 9, 10, 11, 12, 13, 16, 24, 32] fun K hK => ?_
      simp [h16, hb]
      repeat refine ⟨by first | omega | assumption | (simp only [maxLen]; omega) | (intros; omega) | decide, ?_⟩
      refine meet.of (law05_alive) ?_
      simp [h16, hb]
      repeat refine ⟨by first | omega | assumption | (simp only [maxLen]; omega) | (intros; omega) | decide, ?_⟩
      refine hK _ ?_
      clear hK K
      refine AWp.ret ?_
      repeat first | refine thenN ?_ | refine thenX ?_ | refine thenR ?_ | refine blockN ?_ | refine blockR ?_ | refine blockX ?_ | refine blockM rfl ?_
      simp [RetOk, RV]
    · try simp at h24
      have he : (isbR s).2 = 0 := by omega
      have hq : isbR s = ((isbR s).1, 0) := Prod.ext rfl he
      obtain ⟨u, hu⟩ : ∃ u, (isbR s).1 = u := ⟨_, rfl⟩
      rw [hu] at hq
      obtain ⟨h13, -, -⟩ := isb_own (t := rmvR s) (u := u) hq
      have h13z : (u.length : Int) = 13 := by omega
      have hat : 0 ≤ at' ∧ at' ≤ 255 := by have h := Ok_int (hok (.int .u8 at') (by simp)); exact ⟨h.1, h.2⟩
      obtain ⟨k, hk⟩ : ∃ k : Nat, at' % 14 = (k : Int) := ⟨(at' % 14).toNat, by omega⟩
      have hk13 : k ≤ 13 := by omega
      have hself := isb_self hq
      have hmore := isb_more hq
      have hcut := isb_cut hq k
      simp only [List.cons_append, List.nil_append, List.append_assoc] at hcut
      have hkm : (IntKind.i64.wrap at').tmod 14 = (k : Int) := by rw [wrap_i64 (by omega) (by omega), Int.tmod_eq_emod_of_nonneg hat.1]; exact hk
      have hml : u.length ≤ maxLen := by simp only [maxLen]; omega
      refine AWp.skip ?_
      repeat first | refine thenN ?_ | refine thenX ?_ | refine thenR ?_ | refine blockN ?_ | refine blockR ?_ | refine blockX ?_ | refine blockM rfl ?_
      refine AWp.seq ?_
      -- region 6
      refine AWp.rseq E_ok [0, 1, 4, 5, 6, 7, 8, 9, 10, 11, 12, 13, 16, 24, 32] fun K hK => ?_
      simp [h16, hml, hu, he, h13z, hk, hkm, hself, hmore, hcut]
      repeat refine ⟨by first | omega | assumption | (simp only [maxLen]; omega) | (intros; omega) | decide, ?_⟩
      refine hK _ ?_
      clear hK K
      refine AWp.cond rfl (fun h32 => ?_) (fun h32 => ?_)
      · exact absurd h32 (by simp)
      · try simp at h32
        refine AWp.skip ?_
        repeat first | refine thenN ?_ | refine thenX ?_ | refine thenR ?_ | refine blockN ?_ | refine blockR ?_ | refine blockX ?_ | refine blockM rfl ?_
        -- region 8
        refine AWp.rseq E_ok [0, 1, 4, 5, 6, 7, 8, 9, 10, 11, 12, 13, 16, 24, 32] fun K hK => ?_
        simp [h16, hml, hu, he, h13z, hk, hkm, hself, hmore, hcut]
        repeat refine ⟨by first | omega | assumption | (simp only [maxLen]; omega) | (intros; omega) | decide, ?_⟩
        refine hK _ ?_
        clear hK K
        -- region 9
        refine AWp.rseq E_ok [0, 1, 4, 5, 6, 7, 8, 9, 10, 11, 12, 13, 16, 24, 32] fun K hK => ?_
        simp [h16, hml, hu, he, h13z, hk, hkm, hself, hmore, hcut]
        repeat refine ⟨by first | omega | assumption | (simp only [maxLen]; omega) | (intros; omega) | decide, ?_⟩
        refine meet.of (barcode_Isbn u (by omega)) ?_
        simp [h16, hml, hu, he, h13z, hk, hkm, hself, hmore, hcut]
        repeat refine ⟨by first | omega | assumption | (simp only [maxLen]; omega) | (intros; omega) | decide, ?_⟩
        refine hK _ ?_
        clear hK K
        -- region 10
        refine AWp.rseqQ E_ok mixed [0, 1, 4, 5, 6, 7, 8, 9, 10, 11, 12, 13, 16, 24, 32] (by kernel_rfl) fun K hK => ?_
        simp [h16, hml, hu, he, h13z, hk, hkm, hself, hmore, hcut]
        repeat refine ⟨by first | omega | assumption | (simp only [maxLen]; omega) | (intros; omega) | decide, ?_⟩
        refine meet.of (barcode_Isbn (45 :: (u.take k ++ 32 :: 45 :: 32 :: (u.drop k ++ [32]))) (by simp; omega)) ?_
        simp [h16, hml, hu, he, h13z, hk, hkm, hself, hmore, hcut]
        repeat refine ⟨by first | omega | assumption | (simp only [maxLen]; omega) | (intros; omega) | decide, ?_⟩
        refine hK _ ?_
        clear hK K
        -- region 11
        refine AWp.rseq E_ok [0, 1, 4, 5, 6, 7, 8, 9, 10, 11, 12, 13, 16, 24, 32] fun K hK => ?_
        simp [h16, hml, hu, he, h13z, hk, hkm, hself, hmore, hcut]
        repeat refine ⟨by first | omega | assumption | (simp only [maxLen]; omega) | (intros; omega) | decide, ?_⟩
        refine meet.of (barcode_Isbn (s ++ [45]) (by simp; omega)) ?_
        simp [h16, hml, hu, he, h13z, hk, hkm, hself, hmore, hcut]
        repeat refine ⟨by first | omega | assumption | (simp only [maxLen]; omega) | (intros; omega) | decide, ?_⟩
        refine hK _ ?_
        clear hK K
        -- region 12
        refine AWp.rseq E_ok [0, 1, 4, 5, 6, 7, 8, 9, 10, 11, 12, 13, 16, 24, 32] fun K hK => ?_
        simp [h16, hml, hu, he, h13z, hk, hkm, hself, hmore, hcut]
        repeat refine ⟨by first | omega | assumption | (simp only [maxLen]; omega) | (intros; omega) | decide, ?_⟩
        refine meet.of (law05_alive) ?_
        simp [h16, hml, hu, he, h13z, hk, hkm, hself, hmore, hcut]
        repeat refine ⟨by first | omega | assumption | (simp only [maxLen]; omega) | (intros; omega) | decide, ?_⟩
        refine hK _ ?_
        clear hK K
        refine AWp.ret ?_
        repeat first | refine thenN ?_ | refine thenX ?_ | refine thenR ?_ | refine blockN ?_ | refine blockR ?_ | refine blockX ?_ | refine blockM rfl ?_
        simp [RetOk, RV]
end Go.Proofs.YtjljjnipjhbeaaaGreatDoor
