/-
  'BarcodeBooks' holds: for every input the law returns true, and every argument reads behind the call as it read before; the listed package-level variables start as the program's text lays them (the tied card). No other conditions.
-/
import Derived.Test.YtjljjnipjhbeaaaGreatDoorMoreBarcodeBooksOne
import Derived.Test.YtjljjnipjhbeaaaGreatDoorRows
import Derived.Test.YtjljjnipjhbeaaaGreatDoorCards
import Derived.Test.YtjljjnipjhbeaaaGreatDoorTie
import Derived.WalkKit
import Derived.ProofKit
import Derived.OpenShut
import Derived.ShutString
import Derived.ChangeOld
import Derived.Below
import Derived.LaidMore
import Derived.Stop.Joined
import Derived.Stop.LaidErr
import Derived.SevenTiedAt
namespace Go.Proofs.YtjljjnipjhbeaaaGreatDoor.barcodeBooks
open Go Go.ChangeShapes Go.WideShapes Go.ChangeAt Go.RowKit Ab
set_option linter.unusedVariables false

theorem own : ownKnob Tryz.prog.godebug = none := by kernel_rfl
theorem laidOut : laidOutB Tryz.prog = true := by kernel_rfl

theorem door_met (os : Os) (args : Array Value) : laidMetH Tryz.prog Rows.barcodeBooksRow.laid ((World.doorLaid Tryz.prog 400 os).forCall (fun _ _ => 0) ⟨#[], args, []⟩).memory :=
  laidMetH_of_parts3 (fuel := 8) (laidMet_of_run' 8 (by kernel_rfl) (by kernel_rfl)) (by kernel_rfl) (by kernel_rfl)

theorem of_laid {W : World} (h : laidMetH Tryz.prog Rows.barcodeBooksRow.laid W) : Amb.G W (oldS W) := by
  rw [MakeChecks.laidMetH_plain _ _ _ (by kernel_rfl)] at h
  have t0 : Go.Lib.TabIs Tryz.prog W tabL0.name tabL0.k tabL0.zs := Go.Lib.tabIs_of_head (g := 4) (t := 159) (e := 5) (n := 32) (by kernel_rfl) (by kernel_rfl) Tryz.underlying159 Tryz.underlying5 (by kernel_rfl) (by kernel_rfl) h
  replace h := Go.laidMet.tail h
  have t1 : Go.Lib.TabIs Tryz.prog W tabL1.name tabL1.k tabL1.zs := Go.Lib.tabIs_of_head (g := 5) (t := 160) (e := 5) (n := 64) (by kernel_rfl) (by kernel_rfl) Tryz.underlying160 Tryz.underlying5 (by kernel_rfl) (by kernel_rfl) h
  replace h := Go.laidMet.tail h
  have t2 : Go.Lib.TabIs Tryz.prog W tabL2.name tabL2.k tabL2.zs := Go.Lib.tabIs_of_head (g := 2) (t := 125) (e := 83) (n := 20) (by kernel_rfl) (by kernel_rfl) Tryz.underlying125 Tryz.underlying83 (by kernel_rfl) (by kernel_rfl) h
  intro x hx
  simp only [tabL, List.mem_cons, List.not_mem_nil, or_false] at hx
  rcases hx with rfl | rfl | rfl
  · exact ⟨t0, fun _ => var_lt (tabL_g tabL0 (by simp [tabL])) t0⟩
  · exact ⟨t1, fun _ => var_lt (tabL_g tabL1 (by simp [tabL])) t1⟩
  · exact ⟨t2, fun _ => var_lt (tabL_g tabL2 (by simp [tabL])) t2⟩

set_option maxRecDepth 100000 in
theorem lifted (os : Os) (started : os.Started) (H : Type) (enc : TypeId × Value → H) :
    ReturnsInHanded {} Tryz.checked os 10 .any (fun w args => (Rows.barcodeBooksSpec.pre enc Tryz.prog Tryz.f10 [] false w args ∧ laidMetH Tryz.prog Rows.barcodeBooksRow.laid w) ∧ sizedMet enc Tryz.prog Tryz.f10 (OpenSpec.ofChange Rows.barcodeBooksSpec) false w args)
      (Rows.barcodeBooksSpec.post enc Tryz.prog Tryz.f10 false true false false) := by
  refine returnsInHanded_of_change_and (C := Tryz.checked) (X := fun w _ => laidMetH Tryz.prog Rows.barcodeBooksRow.laid w) (fun _ _ _ hh h => h.of_heap hh) own started (by kernel_rfl) Tryz.func10
    (ChangeSpec.witness_shaped (enc := enc) (C := Tryz.checked) (os := os) (X := fun w _ => laidMetH Tryz.prog Rows.barcodeBooksRow.laid w) false (World.doorLaid Tryz.prog 400 os) #[.string ⟨#[]⟩, .int .u8 0] 8 rfl (World.shaped_of_RefB (by kernel_rfl) (by kernel_rfl)) (by kernel_rfl) (by kernel_rfl) (by kernel_rfl) (door_met os _)) ?_
  intro W base args ds gs before hval0 hW _ _ hL _
  have hval : ∀ (j : Nat) t v, Tryz.f10.params[j]? = some t → args[j]? = some v → Value.okWide Tryz.prog W .any base t v := hval0
  have hW' := hW
  obtain ⟨p, q, hA0, hV, rfl, hfz, hnd⟩ := hW
  have hA : DataW.TrodAll enc Tryz.prog W 0 (fun _ => true) true Tryz.f10.params.toList args.toList ds p := hA0
  rw [Tryz.params10] at hA hval
  obtain ⟨v0, vs0, d0, ds0, p0, q0, hargs, rfl, rfl, h0, r0⟩ := trodAll_cons hA
  obtain ⟨v1, vs1, d1, ds1, p1, q1, rfl, rfl, rfl, h1, r1⟩ := trodAll_cons r0
  obtain ⟨rfl, rfl, rfl⟩ := trodAll_nil r1
  obtain rfl : args = #[v0, v1] := by cases args; simp_all
  obtain ⟨rfl, rfl⟩ := trodVars_none hV
  have lt0 : ∀ x ∈ p0, x.block < W.heap.size := by obtain ⟨m, hm⟩ := h0; exact DataW.trod_lt m _ _ _ hm
  obtain ⟨a0, g0, e0⟩ := openV_string.go enc W v0 d0 p0 (.inr ⟨_, hval 0 9 v0 rfl rfl⟩) h0
  have lt1 : ∀ x ∈ p1, x.block < W.heap.size := by obtain ⟨m, hm⟩ := h1; exact DataW.trod_lt m _ _ _ hm
  obtain ⟨a1, g1, e1⟩ := openV_uint8.go enc W v1 d1 p1 (.inr ⟨_, hval 1 5 v1 rfl rfl⟩) h1
  clear hA0 hval0
  refine (ACalls.row (law05_BarcodeBooks a0 a1) (of_laid hL) rfl (fun i d hi => ?_)).mono fun e W' ⟨he, bel⟩ => ?_
  · match i, hi with
    | 0, hi => simp at hi; subst hi; exact e0
    | 1, hi => simp at hi; subst hi; exact e1
    | i + 2, hi => simp at hi
  subst he
  exact ⟨_, rfl, _, _, _, [], _, [], hW', trodAll_mk1 (shut_bool Tryz.underlying4 _), (trodAll_cons_mk (Below.trod laidOut (by kernel_rfl) (of_decide_eq_true (by kernel_rfl)) h0 bel lt0) (trodAll_cons_mk (Below.trod laidOut (by kernel_rfl) (of_decide_eq_true (by kernel_rfl)) h1 bel lt1) trodAll_mk0)), rfl, bel.frame _, fun h => by cases h⟩

theorem over : Rows.barcodeBooksRow.holds Tryz.pinned (OpenSpec.ofChange Rows.barcodeBooksSpec) :=
  OpenClaim.holds_of_wide 10 Tryz.f10 rfl rfl rfl rfl rfl rfl rfl ⟨rfl, rfl, rfl, rfl, rfl⟩ rfl rfl rfl rfl rfl (by kernel_rfl) Tryz.func10 (by kernel_rfl)
    (of_decide_eq_true (by kernel_rfl)) (by unfold Func.isWrapper; first | (rw [if_pos (by decide +kernel)]; kernel_rfl) | (rw [if_neg (by decide +kernel)]; exact ⟨rfl, rfl⟩))
    (fun os started H enc _ => lifted os started H enc)

theorem proved : Rows.BarcodeBooksCardSaid :=
  Claim7.holds_tied_plain_at .later [] [.data, .data, .data, .sentinel, .sentinel] true (true, "ac7f678045f01e3ef882ae50dd08a955a8ca3b17aa44c90be8581034dd8337e7") true
    over (fun _ h => by cases h) (by kernel_rfl) (fun _ h => by cases h) barcodeBooks_row_tie rfl ⟨rfl, rfl⟩ (by kernel_rfl) rfl
    (fun f fn hf hfn => by
      obtain rfl : f = 10 := Option.some.inj ((show Tryz.prog.funcNamed Rows.barcodeBooksRow.func = some 10 by kernel_rfl).symm.trans hf) |>.symm
      obtain rfl : fn = Tryz.f10 := (Option.some.inj (Tryz.func10.symm.trans hfn)).symm
      exact ⟨by kernel_rfl, fun j t ht => by
        rw [Tryz.params10] at ht
        have hm : t ∈ [9, 5] := by simpa using Array.mem_of_getElem? ht
        have hall : ([9, 5].all fun u => !Tryz.prog.wantsStandIn u) = true := by kernel_rfl
        exact (show Tryz.prog.wantsStandIn t = false by simpa using List.all_eq_true.1 hall t hm)⟩)
    (by kernel_rfl)
#print axioms proved
end Go.Proofs.YtjljjnipjhbeaaaGreatDoor.barcodeBooks
