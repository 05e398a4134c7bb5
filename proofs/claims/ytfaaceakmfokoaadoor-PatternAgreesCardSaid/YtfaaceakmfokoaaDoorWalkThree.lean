/-
  What the functions compute that the statement reaches: contracts, and the plain laws between them. Conditions stand at each theorem.
-/
import Derived.Test.YtfaaceakmfokoaaDoorWalkTwo
import Derived.Shelf.Strconv.Itoa0
import Derived.Shelf.Strconv.Itoa1
import Derived.Shelf.LaysM
import Derived.Shelf.Strconv.Itoa2
import Derived.Shelf.Strconv.Itoa3
import Derived.Test.YtfaaceakmfokoaaDoorProg
set_option linter.unusedVariables false
set_option linter.unusedSimpArgs false
set_option maxRecDepth 100000
set_option linter.unusedSimpArgs false
set_option linter.unusedVariables false
namespace Go.Proofs.YtfaaceakmfokoaaDoor
open Go Ab Pl
open Go.RowKit Go.Shelf
attribute [local go_sem] Oper.semAt_some
set_option maxHeartbeats 4000000 in
theorem Nth_c {p : Pat} {s1 : Value} {a2 : Option Addr} {c2 : Nat} {S : Nat → Nat → Prop} {w : World} (h : PW p s1 (.slice a2 p.dbl.length c2) S w) (n : Int) (hn : -9223372036854775808 ≤ n ∧ n ≤ 9223372036854775807) :
    CallsIn Fence.wide 3 Tryd.prog 12 #[.agg (pvP p s1 (.slice a2 p.dbl.length c2)), .int .i64 n] w fun e W' => e = .returned (.tuple #[.agg (issV (nthR p n).1), .int .i64 (nthR p n).2]) ∧ Below w.heap.size w W' := by
  refine callsIn_of_wp_marks Tryd.func12 rfl trivial ?_ rfl
  simp only [Tryd.ntmps12, List.size_toArray, List.length_cons, List.length_nil, Nat.reduceAdd, Nat.reduceSub, Array.replicate_succ, Array.replicate_zero, List.push_toArray, List.append_toArray, List.nil_append, List.cons_append]
  gi_wp2_with (refine ⟨trivial, ?_⟩; gi_at_call 25; refine (issues_in _ rfl _).mono ?_; rintro e w' ⟨rfl, rfl⟩)
  have ha := allocs_get [.cells (pvP p s1 (.slice a2 p.dbl.length c2)) 24, .cells #[.int .i64 n] 3, .cells (issV zIss) 30, .cells #[.int .i64 0] 27, .cells #[.int .i64 0] 3, .cells (pvP p s1 (.slice a2 p.dbl.length c2)) 24] w
  have hb1 := allocs_below [.cells (pvP p s1 (.slice a2 p.dbl.length c2)) 24, .cells #[.int .i64 n] 3, .cells (issV zIss) 30, .cells #[.int .i64 0] 27, .cells #[.int .i64 0] 3, .cells (pvP p s1 (.slice a2 p.dbl.length c2)) 24] w
  have hs1 := allocs_size [.cells (pvP p s1 (.slice a2 p.dbl.length c2)) 24, .cells #[.int .i64 n] 3, .cells (issV zIss) 30, .cells #[.int .i64 0] 27, .cells #[.int .i64 0] 3, .cells (pvP p s1 (.slice a2 p.dbl.length c2)) 24] w
  change Code.wpIn _ _ _ _ _ _ (allocs w [.cells (pvP p s1 (.slice a2 p.dbl.length c2)) 24, .cells #[.int .i64 n] 3, .cells (issV zIss) 30, .cells #[.int .i64 0] 27, .cells #[.int .i64 0] 3, .cells (pvP p s1 (.slice a2 p.dbl.length c2)) 24])
  generalize allocs w [.cells (pvP p s1 (.slice a2 p.dbl.length c2)) 24, .cells #[.int .i64 n] 3, .cells (issV zIss) 30, .cells #[.int .i64 0] 27, .cells #[.int .i64 0] 3, .cells (pvP p s1 (.slice a2 p.dbl.length c2)) 24] = w1 at ha hb1 hs1 ⊢
  replace hs1 : w1.heap.size = w.heap.size + 6 := hs1
  have hp1 : w1.heap[w.heap.size + 5]? = some (.cells (pvP p s1 (.slice a2 p.dbl.length c2)) 24) := ha 5 _ rfl
  have hl1 : Lie (w.heap.size + 1) [.cells #[.int .i64 n] 3, .cells (issV zIss) 30, .cells #[.int .i64 0] 27, .cells #[.int .i64 0] 3] w1 := fun i o hi => by
    have := (List.getElem?_eq_some_iff.1 hi).1
    rw [show w.heap.size + 1 + i = w.heap.size + (i + 1) by omega]
    exact ha (i + 1) o (by match i, hi with | 0, hi => exact hi | 1, hi => exact hi | 2, hi => exact hi | 3, hi => exact hi | i + 4, hi => exact absurd this (by simp))
  refine range_X (gf := 33) (lb := #[.pointer (some ⟨w.heap.size + 5, 0, none⟩)]) (encs := fun x : Iss => #[.agg (issV x)]) (xs := allI p) (n₀ := w.heap.size) (Bp := w.heap.size + 5) rfl (enters_of Tryd.func33 (by kernel_rfl) rfl) (fun _ => rfl) (by omega) (by omega) (seq_x h hb1 hp1)
    (fun pre W => Lie (w.heap.size + 1) [.cells #[.int .i64 n] 3, .cells (issV zIss) 30, .cells #[.int .i64 0] 27, .cells #[.int .i64 (pre.length : Int)] 3] W ∧ ¬ (0 ≤ n ∧ n < (pre.length : Int)) ∧ Below w.heap.size w W)
    (fun c pre W => c = .ret ∧ (∃ (pre' : List Iss) (x : Iss), pre = pre' ++ [x] ∧ n = (pre'.length : Int) ∧ Lie (w.heap.size + 2) [.cells (issV x) 30, .cells #[.int .i64 0] 27] W) ∧ Below w.heap.size w W)
    (fun x a' W => ∃ bx, w1.heap.size + 2 < bx ∧ W.heap[bx]? = some (.cells (issV x) 30) ∧ a' = { tmps := #[.agg (pvP p s1 (.slice a2 p.dbl.length c2)), .int .i64 n, .pointer (some ⟨w.heap.size, 0, none⟩), .pointer (some ⟨w.heap.size + 1, 0, none⟩), .pointer (some ⟨w.heap.size + 1 + 1, 0, none⟩), .pointer (some ⟨w.heap.size + 1 + 1 + 1, 0, none⟩), .pointer (some ⟨w.heap.size + 1 + 1 + 1 + 1, 0, none⟩), .pointer (some ⟨bx, 0, none⟩),
      .agg (pvP p s1 (.slice a2 p.dbl.length c2)), .func (.func 33) #[] #[.pointer (some ⟨w.heap.size + 1 + 1 + 1 + 1 + 1, 0, none⟩)], .agg (issV x), undef, undef, undef, undef, undef, undef, undef], defers := [] })
    (fun s A A' hi ht => ⟨hi.1.turn ht (by simp; omega), hi.2.1, hi.2.2.trans (ht.below hi.2.2.size (by omega))⟩)
    (fun c s A A' ⟨hc, ⟨pre', x, e1, e2, hl⟩, hb⟩ ht => ⟨hc, ⟨pre', x, e1, e2, hl.turn ht (by simp; omega)⟩, hb.trans (ht.below hb.size (by omega))⟩)
    (fun s A o hi => ⟨hi.1.put (by simp; omega), hi.2.1, hi.2.2.trans (put_below hi.2.2.size (by omega) o)⟩)
    (fun c s A o ⟨hc, ⟨pre', x, e1, e2, hl⟩, hb⟩ => ⟨hc, ⟨pre', x, e1, e2, hl.put (by simp; omega)⟩, hb.trans (put_below hb.size (by omega) o)⟩)
    (fun x a' A o ⟨bx, h1, h2, h3⟩ => ⟨bx, h1, (World.putObj_heap_other (by omega)).trans h2, h3⟩)
    ⟨hl1, by simp, hb1⟩ ?assign ?body ?done ?stop
  case assign =>
    intro pre x W K hi hsz hK
    gi_wp2
    exact hK _ _ ⟨(Below.refl _ W).alloc hi.2.2.size _, fun k _ hk => Below.heap_alloc W _ k hk⟩ ⟨hi.1.turn (B := w1.heap.size + 2) (Turn.alloc _) (by simp; omega), hi.2.1, hi.2.2.trans ((Below.refl _ W).alloc hi.2.2.size _)⟩ ⟨W.heap.size, hsz, World.alloc_heap_new W _, rfl⟩
  case body =>
    rintro pre x a' W ⟨hl, hnn, hb⟩ ⟨bx, hbx, hcx, rfl⟩ hsz hpre
    have cn : W.cell? ⟨w.heap.size + 1, 0, none⟩ = some (.int .i64 n) := (box1 (hl 0 _ rfl)).1
    have ck : W.cell? ⟨w.heap.size + 1 + 1 + 1 + 1, 0, none⟩ = some (.int .i64 (pre.length : Int)) := (box1 (hl 3 _ rfl)).1
    have fk : W.frozen? ⟨w.heap.size + 1 + 1 + 1 + 1, 0, none⟩ = false := (box1 (hl 3 _ rfl)).2
    obtain ⟨⟨x0, x1, x2, x3, x4, x5⟩, _⟩ := box6 hcx
    have b6 := box6 (b := w.heap.size + 1 + 1) (hl 1 _ rfl)
    obtain ⟨⟨z0, z1, z2, z3, z4, z5⟩, f0, f1, f2, f3, f4, f5⟩ := b6
    have ce : W.cell? ⟨w.heap.size + 1 + 1 + 1, 0, none⟩ = some (.int .i64 0) := (box1 (hl 2 _ rfl)).1
    have fe : W.frozen? ⟨w.heap.size + 1 + 1 + 1, 0, none⟩ = false := (box1 (hl 2 _ rfl)).2
    by_cases hkn : (pre.length : Int) = n
    · gi_wp2
      have hk : Keep w.heap.size (KX w1.heap.size (w.heap.size + 5)) W ((set6 W (w.heap.size + 1 + 1) x).setCell ⟨w.heap.size + 1 + 1 + 1, 0, none⟩ (.int .i64 0)) :=
        (set6_keep (by omega) (by unfold KX; omega) x).trans (keep_set (by omega) (by unfold KX; omega))
      refine ⟨hk, rfl, ⟨pre, x, rfl, hkn.symm, fun i o hi => ?_⟩, hb.trans hk.below⟩
      match i, hi with
      | 0, hi =>
        cases hi
        exact (set_other (by simp)).trans (set6_at (b := w.heap.size + 1 + 1) (hl 1 _ rfl) x)
      | 1, hi =>
        cases hi
        exact box1_set ((set6_other (by omega) x).trans (hl 2 _ rfl))
      | i + 2, hi => simp at hi
    · have h5 : pre.length + 1 ≤ 5000 := by have := hpre.length_le; have := allI_len p; simp at *; omega
      have m1 : wrap64 ((pre.length : Int) + 1) = (pre.length : Int) + 1 := by unfold wrap64; omega
      gi_wp2
      have hk : Keep w.heap.size (KX w1.heap.size (w.heap.size + 5)) W (W.setCell ⟨w.heap.size + 1 + 1 + 1 + 1, 0, none⟩ (.int .i64 ((pre.length : Int) + 1))) := keep_set (by omega) (by unfold KX; omega)
      refine ⟨hk, ?_, by simp; omega, hb.trans hk.below⟩
      have := hl.set (i := 3) (j := 0) (v := .int .i64 ((pre.length : Int) + 1)) (by simp) (box1_set (hl 3 _ rfl))
      simpa using this
  case done =>
    rintro W ⟨hl, hnn, hb⟩ hD
    obtain ⟨⟨z0, z1, z2, z3, z4, z5⟩, f0, f1, f2, f3, f4, f5⟩ := box6 (b := w.heap.size + 1 + 1) (hl 1 _ rfl)
    have ce : W.cell? ⟨w.heap.size + 1 + 1 + 1, 0, none⟩ = some (.int .i64 0) := (box1 (hl 2 _ rfl)).1
    have fe : W.frozen? ⟨w.heap.size + 1 + 1 + 1, 0, none⟩ = false := (box1 (hl 2 _ rfl)).2
    gi_wp2
    obtain ⟨V, hV⟩ : ∃ V, (set6 W (w.heap.size + 1 + 1) zIss).setCell ⟨w.heap.size + 1 + 1 + 1, 0, none⟩ (.int .i64 2) = V := ⟨_, rfl⟩
    have h6 : V.heap[w.heap.size + 1 + 1]? = some (.cells (issV zIss) 30) := by rw [← hV]; exact (set_other (by simp)).trans (set6_at (b := w.heap.size + 1 + 1) (hl 1 _ rfl) zIss)
    have he : V.heap[w.heap.size + 1 + 1 + 1]? = some (.cells #[.int .i64 2] 27) := by rw [← hV]; exact box1_set ((set6_other (by omega) zIss).trans (hl 2 _ rfl))
    have hD' : V.heap[w1.heap.size]? = some (.deferred (some [])) := by rw [← hV]; exact (set_other (by simp; omega)).trans ((set6_other (by omega) zIss).trans hD)
    have hbV : Below w.heap.size w V := by
      rw [← hV]; exact hb.trans ((set6_keep (K := fun _ => False) (by omega) (fun h => h) zIss).trans (keep_set (by omega) (fun h => h))).below
    change bodyPostM _ _ _ _ _ _ _ ((set6 W (w.heap.size + 1 + 1) zIss).setCell ⟨w.heap.size + 1 + 1 + 1, 0, none⟩ (.int .i64 2))
    rw [hV]
    refine ⟨by simp, .inl ⟨_, _, rfl, run_takeDeferred hD', ?_⟩⟩
    obtain ⟨⟨y0, y1, y2, y3, y4, y5⟩, _⟩ := box6 (x := zIss) (W := V.putObj w1.heap.size (.deferred none)) ((World.putObj_heap_other (by omega)).trans h6)
    have ye := (box1 (W := V.putObj w1.heap.size (.deferred none)) ((World.putObj_heap_other (by omega)).trans he)).1
    refine ⟨.tuple #[.agg (issV zIss), .int .i64 2], ?_, by rw [nth_miss hnn], hbV.trans (put_below hbV.size (by omega) _)⟩
    simp [results, Tryd.f12, go_sem, y0, y1, y2, y3, y4, y5, ye]
  case stop =>
    rintro c pre W hpre ⟨rfl, ⟨pre', x, rfl, rfl, hl⟩, hb⟩ hD
    gi_wp2
    refine ⟨by simp, .inl ⟨_, _, rfl, run_takeDeferred hD, ?_⟩⟩
    obtain ⟨⟨y0, y1, y2, y3, y4, y5⟩, _⟩ := box6 (b := w.heap.size + 1 + 1) (x := x) (W := W.putObj w1.heap.size (.deferred none)) ((World.putObj_heap_other (by omega)).trans (hl 0 _ rfl))
    have ye := (box1 (b := w.heap.size + 1 + 1 + 1) (W := W.putObj w1.heap.size (.deferred none)) ((World.putObj_heap_other (by omega)).trans (hl 1 _ rfl))).1
    refine ⟨.tuple #[.agg (issV x), .int .i64 0], ?_, by rw [nth_hit hpre], hb.trans (put_below hb.size (by omega) _)⟩
    simp [results, Tryd.f12, go_sem, y0, y1, y2, y3, y4, y5, ye]

end Go.Proofs.YtfaaceakmfokoaaDoor

set_option maxRecDepth 100000
set_option linter.unusedSimpArgs false
set_option linter.unusedVariables false
namespace Go.Proofs.YtfaaceakmfokoaaDoor
open Go Ab Pl
open Go.RowKit Go.Shelf
attribute [local go_sem] Oper.semAt_some
set_option maxHeartbeats 4000000 in
theorem Until_c {p : Pat} {s1 : Value} {a2 : Option Addr} {c2 : Nat} {S : Nat → Nat → Prop} {w : World} (h : PW p s1 (.slice a2 p.dbl.length c2) S w) (day : Int) :
    CallsIn Fence.wide 3 Tryd.prog 19 #[.agg (pvP p s1 (.slice a2 p.dbl.length c2)), .int .i64 day] w fun e W' => e = .returned (.int .i64 (untilR p day)) ∧ Below w.heap.size w W' := by
  refine callsIn_of_wp_marks Tryd.func19 rfl trivial ?_ rfl
  simp only [Tryd.ntmps19, List.size_toArray, List.length_cons, List.length_nil, Nat.reduceAdd, Nat.reduceSub, Array.replicate_succ, Array.replicate_zero, List.push_toArray, List.append_toArray, List.nil_append, List.cons_append]
  gi_wp2_with (refine ⟨trivial, ?_⟩; gi_at_call 25; refine (issues_in _ rfl _).mono ?_; rintro e w' ⟨rfl, rfl⟩)
  have ha := allocs_get [.cells (pvP p s1 (.slice a2 p.dbl.length c2)) 24, .cells #[.int .i64 day] 3, .cells #[.int .i64 0] 3, .cells (pvP p s1 (.slice a2 p.dbl.length c2)) 24] w
  have hb1 := allocs_below [.cells (pvP p s1 (.slice a2 p.dbl.length c2)) 24, .cells #[.int .i64 day] 3, .cells #[.int .i64 0] 3, .cells (pvP p s1 (.slice a2 p.dbl.length c2)) 24] w
  have hs1 := allocs_size [.cells (pvP p s1 (.slice a2 p.dbl.length c2)) 24, .cells #[.int .i64 day] 3, .cells #[.int .i64 0] 3, .cells (pvP p s1 (.slice a2 p.dbl.length c2)) 24] w
  change Code.wpIn _ _ _ _ _ _ (allocs w [.cells (pvP p s1 (.slice a2 p.dbl.length c2)) 24, .cells #[.int .i64 day] 3, .cells #[.int .i64 0] 3, .cells (pvP p s1 (.slice a2 p.dbl.length c2)) 24])
  generalize allocs w [.cells (pvP p s1 (.slice a2 p.dbl.length c2)) 24, .cells #[.int .i64 day] 3, .cells #[.int .i64 0] 3, .cells (pvP p s1 (.slice a2 p.dbl.length c2)) 24] = w1 at ha hb1 hs1 ⊢
  replace hs1 : w1.heap.size = w.heap.size + 4 := hs1
  have hp1 : w1.heap[w.heap.size + 3]? = some (.cells (pvP p s1 (.slice a2 p.dbl.length c2)) 24) := ha 3 _ rfl
  have hl1 : Lie (w.heap.size + 1) [.cells #[.int .i64 day] 3, .cells #[.int .i64 0] 3] w1 := fun i o hi => by
    have := (List.getElem?_eq_some_iff.1 hi).1
    rw [show w.heap.size + 1 + i = w.heap.size + (i + 1) by omega]
    exact ha (i + 1) o (by match i, hi with | 0, hi => exact hi | 1, hi => exact hi | i + 2, hi => exact absurd this (by simp))
  refine range_X (gf := 33) (lb := #[.pointer (some ⟨w.heap.size + 3, 0, none⟩)]) (encs := fun x : Iss => #[.agg (issV x)]) (xs := allI p) (n₀ := w.heap.size) (Bp := w.heap.size + 3) rfl (enters_of Tryd.func33 (by kernel_rfl) rfl) (fun _ => rfl) (by omega) (by omega) (seq_x h hb1 hp1)
    (fun pre W => Lie (w.heap.size + 1) [.cells #[.int .i64 day] 3, .cells #[.int .i64 (pre.length : Int)] 3] W ∧ (∀ x ∈ pre, x.day ≤ day) ∧ Below w.heap.size w W)
    (fun c pre W => c = .exit 0 ∧ (∃ (pre' : List Iss) (x : Iss), pre = pre' ++ [x] ∧ (∀ y ∈ pre', y.day ≤ day) ∧ day < x.day ∧ Lie (w.heap.size + 1) [.cells #[.int .i64 day] 3, .cells #[.int .i64 (pre'.length : Int)] 3] W) ∧ Below w.heap.size w W)
    (fun x a' W => ∃ bx, w1.heap.size + 2 < bx ∧ W.heap[bx]? = some (.cells (issV x) 30) ∧ a' = { tmps := #[.agg (pvP p s1 (.slice a2 p.dbl.length c2)), .int .i64 day, .pointer (some ⟨w.heap.size, 0, none⟩), .pointer (some ⟨w.heap.size + 1, 0, none⟩), .int .i64 0, .pointer (some ⟨w.heap.size + 1 + 1, 0, none⟩), .pointer (some ⟨bx, 0, none⟩),
      .agg (pvP p s1 (.slice a2 p.dbl.length c2)), .func (.func 33) #[] #[.pointer (some ⟨w.heap.size + 1 + 1 + 1, 0, none⟩)], .agg (issV x), undef, undef, undef, undef, undef, undef, undef], defers := [] })
    (fun s A A' hi ht => ⟨hi.1.turn ht (by simp; omega), hi.2.1, hi.2.2.trans (ht.below hi.2.2.size (by omega))⟩)
    (fun c s A A' ⟨hc, ⟨pre', x, e1, e2, e3, hl⟩, hb⟩ ht => ⟨hc, ⟨pre', x, e1, e2, e3, hl.turn ht (by simp; omega)⟩, hb.trans (ht.below hb.size (by omega))⟩)
    (fun s A o hi => ⟨hi.1.put (by simp; omega), hi.2.1, hi.2.2.trans (put_below hi.2.2.size (by omega) o)⟩)
    (fun c s A o ⟨hc, ⟨pre', x, e1, e2, e3, hl⟩, hb⟩ => ⟨hc, ⟨pre', x, e1, e2, e3, hl.put (by simp; omega)⟩, hb.trans (put_below hb.size (by omega) o)⟩)
    (fun x a' A o ⟨bx, h1, h2, h3⟩ => ⟨bx, h1, (World.putObj_heap_other (by omega)).trans h2, h3⟩)
    ⟨hl1, by simp, hb1⟩ ?assign ?body ?done ?stop
  case assign =>
    intro pre x W K hi hsz hK
    gi_wp2
    exact hK _ _ ⟨(Below.refl _ W).alloc hi.2.2.size _, fun k _ hk => Below.heap_alloc W _ k hk⟩ ⟨hi.1.turn (B := w1.heap.size + 2) (Turn.alloc _) (by simp; omega), hi.2.1, hi.2.2.trans ((Below.refl _ W).alloc hi.2.2.size _)⟩ ⟨W.heap.size, hsz, World.alloc_heap_new W _, rfl⟩
  case body =>
    rintro pre x a' W ⟨hl, hnn, hb⟩ ⟨bx, hbx, hcx, rfl⟩ hsz hpre
    have cn : W.cell? ⟨w.heap.size + 1, 0, none⟩ = some (.int .i64 day) := (box1 (hl 0 _ rfl)).1
    have ck : W.cell? ⟨w.heap.size + 1 + 1, 0, none⟩ = some (.int .i64 (pre.length : Int)) := (box1 (hl 1 _ rfl)).1
    have fk : W.frozen? ⟨w.heap.size + 1 + 1, 0, none⟩ = false := (box1 (hl 1 _ rfl)).2
    obtain ⟨⟨x0, x1, x2, x3, x4, x5⟩, _⟩ := box6 hcx
    have h5 : pre.length + 1 ≤ 5000 := by have := hpre.length_le; have := allI_len p; simp at *; omega
    have m1 : wrap64 ((pre.length : Int) + 1) = (pre.length : Int) + 1 := by unfold wrap64; omega
    by_cases hkn : day < x.day
    · gi_wp2
      exact ⟨Keep.refl _, rfl, ⟨pre, x, rfl, hnn, hkn, hl⟩, hb⟩
    · gi_wp2
      have hk : Keep w.heap.size (KX (w.heap.size + 4) (w.heap.size + 3)) W (W.setCell ⟨w.heap.size + 1 + 1, 0, none⟩ (.int .i64 ((pre.length : Int) + 1))) := keep_set (by omega) (by unfold KX; omega)
      refine ⟨hk, ?_, fun y hy => ?_, hb.trans hk.below⟩
      · have := hl.set (i := 1) (j := 0) (v := .int .i64 ((pre.length : Int) + 1)) (by simp) (box1_set (hl 1 _ rfl))
        simpa using this
      · rcases List.mem_append.1 hy with hy | hy
        · exact hnn y hy
        · simp at hy; subst hy; omega
  case done =>
    rintro W ⟨hl, hnn, hb⟩ hD
    have ck : W.cell? ⟨w.heap.size + 1 + 1, 0, none⟩ = some (.int .i64 ((allI p).length : Int)) := (box1 (hl 1 _ rfl)).1
    gi_wp2
    refine ⟨by simp, .inl ⟨_, _, rfl, run_takeDeferred hD, ?_⟩⟩
    exact ⟨_, results_tmp rfl _ _ _, by rw [until_all hnn]; rfl, hb.trans (put_below hb.size (by omega) _)⟩
  case stop =>
    rintro c pre W hpre ⟨rfl, ⟨pre', x, rfl, e2, e3, hl⟩, hb⟩ hD
    have ck : W.cell? ⟨w.heap.size + 1 + 1, 0, none⟩ = some (.int .i64 (pre'.length : Int)) := (box1 (hl 1 _ rfl)).1
    gi_wp2
    refine ⟨by simp, .inl ⟨_, _, rfl, run_takeDeferred hD, ?_⟩⟩
    exact ⟨_, results_tmp rfl _ _ _, by rw [until_cut hpre e2 e3]; rfl, hb.trans (put_below hb.size (by omega) _)⟩

end Go.Proofs.YtfaaceakmfokoaaDoor

set_option maxRecDepth 100000
set_option linter.unusedSimpArgs false
set_option linter.unusedVariables false
namespace Go.Proofs.YtfaaceakmfokoaaDoor
open Go Ab Pl
open Go.RowKit
theorem rep_iss {w : World} {S : Nat → Nat → Prop} {x : Iss} (h : IssSm x) : Rep w S (encIss x) (.agg (issV x)) := by
  unfold IssSm at h
  rw [encIss_eq]
  refine .agg _ _ rfl (by simp [D.flat]) fun i c hc => ?_
  match i, hc with
  | 0, hc => simp at hc; subst hc; exact .int _ _ (by simp; omega)
  | 1, hc => simp at hc; subst hc; exact .int _ _ (by simp; omega)
  | 2, hc => simp at hc; subst hc; exact .int _ _ (by simp; omega)
  | 3, hc => simp at hc; subst hc; exact .int _ _ (by simp; omega)
  | 4, hc => simp at hc; subst hc; exact .int _ _ (by simp; omega)
  | 5, hc => simp at hc; subst hc; exact .int _ _ (by simp; omega)
  | i + 6, hc => simp at hc
theorem pat_open {w : World} {S : Nat → Nat → Prop} {p : Pat} {v : Value} (h : Rep w S (encPat p) v) : ∃ s1 a2 c2, v = .agg (pvP p s1 (.slice a2 p.dbl.length c2)) := by
  rw [encPat_eq] at h
  cases h with
  | agg cs vs hl hf h =>
    obtain ⟨l⟩ := vs
    match l, hl with
    | [a, b, c, d, e, f], _ =>
      have h0 := h 0 _ rfl; have h1 := h 1 _ rfl; have h2 := h 2 _ rfl; have h3 := h 3 _ rfl; have h5 := h 5 _ rfl
      simp at h0 h1 h2 h3 h5
      obtain ⟨a2, c2, rfl⟩ := rep_len h5
      cases h0; cases h1; cases h2; cases h3
      exact ⟨e, a2, c2, rfl⟩
theorem pattern_Nth (p : Pat) (n : Int) (hp : PatOk p) : ACalls E.P 12 [encPat p, .int .i64 n] (.tup [encIss (nthR p n).1, .int .i64 (nthR p n).2]) := by
  refine ⟨⟨_, Tryd.func12, by kernel_rfl, rfl⟩, fun w S vs hG hS hs hr => ?_⟩
  obtain ⟨l⟩ := vs
  match l, hs with
  | [v0, v1], _ =>
    have r0 := hr 0 _ rfl; have r1 := hr 1 _ rfl
    simp at r0 r1
    obtain ⟨s1, a2, c2, rfl⟩ := pat_open r0
    cases r1 with
    | int _ _ h1 =>
      refine (callsIn_wide.1 (Nth_c ⟨hp, hG, hS, r0⟩ n (by simpa using h1))).mono ?_
      rintro e w' ⟨rfl, hb⟩
      have hsm := nth_sm hp n
      refine ⟨_, rfl, hb, _, rfl, rfl, fun i d hi => ?_⟩
      match i, hi with
      | 0, hi => simp at hi; subst hi; exact rep_iss hsm.1
      | 1, hi => simp at hi; subst hi; exact .int _ _ (by simp; omega)
      | i + 2, hi => simp at hi
theorem pattern_Until (p : Pat) (day : Int) (hp : PatOk p) : ACalls E.P 19 [encPat p, .int .i64 day] (.d (.int .i64 (untilR p day))) := by
  refine ⟨⟨_, Tryd.func19, by kernel_rfl, rfl⟩, fun w S vs hG hS hs hr => ?_⟩
  obtain ⟨l⟩ := vs
  match l, hs with
  | [v0, v1], _ =>
    have r0 := hr 0 _ rfl; have r1 := hr 1 _ rfl
    simp at r0 r1
    obtain ⟨s1, a2, c2, rfl⟩ := pat_open r0
    cases r1 with
    | int _ _ h1 =>
      refine (callsIn_wide.1 (Until_c ⟨hp, hG, hS, r0⟩ day)).mono ?_
      rintro e w' ⟨rfl, hb⟩
      have := until_rng p day
      exact ⟨_, rfl, hb, .int _ _ (by simp; omega)⟩

end Go.Proofs.YtfaaceakmfokoaaDoor

/-
  DERIVED: THE SHELF's CONTRACTS AT THIS DUMP, IN PLAIN WORDS (tools/lay-plain.mjs out of 'TrydShelf.lean', which tools/lay-shelf.mjs wrote): THE SAME DECLARATIONS UNDER THE SAME NAMES: 'import', 'namespace', 'open', 'def', 'theorem' AND NOTHING ELSE: no command of the shelf's: FOR A HAND-IN. Each laying: the table of numbers ('.._ren') and one theorem, a field a fact of the dump's own or the kernel's comparison; each contract: ONE APPLICATION.
-/
namespace Go.Proofs
open Go.Shelf
def Tryd.lays129_ren : Go.Shelf.Ren := ⟨fun | 129 => 64 | n => n, fun | 53 => 68 | 3 => 3 | 4 => 4 | 46 => 80 | 5 => 5 | 9 => 9 | n => n, fun | n => n⟩
theorem Tryd.lays129 : Go.Proofs.Lays.n129 Tryd.prog Tryd.lays129_ren := {
  mixed := by kernel_rfl
  f129 := Tryd.func64.trans (congrArg some (by kernel_rfl))
  t3 := Tryd.underlying3
  a3 := Tryd.isAgg3
  z3 := Tryd.sizeOf3
  v3 := Tryd.zeroValue3
  t4 := Tryd.underlying4
  a4 := Tryd.isAgg4
  z4 := Tryd.sizeOf4
  v4 := Tryd.zeroValue4
  t5 := Tryd.underlying5
  a5 := Tryd.isAgg5
  z5 := Tryd.sizeOf5
  v5 := Tryd.zeroValue5
  t9 := Tryd.underlying9
  a9 := Tryd.isAgg9
  z9 := Tryd.sizeOf9
  v9 := Tryd.zeroValue9
  t46 := Tryd.underlying80
  a46 := Tryd.isAgg80
  z46 := Tryd.sizeOf80
  v46 := Tryd.zeroValue80
  t53 := Tryd.underlying68
  a53 := Tryd.isAgg68
  z53 := Tryd.sizeOf68
  v53 := Tryd.zeroValue68 }
/-- bits.Len64: "Len64 returns the minimum number of bits required to represent x; the result is 0 for x == 0.": IT RETURNS 'Lib.bitLen x'; the world is as it was. ('h0', 'h1': x is a uint64.) (LAID: no walk: one application.) -/
theorem Tryd.bits_Len64 (x : Int) (w : World) (h0 : 0 ≤ x) (h1 : x ≤ 18446744073709551615) :
    Calls Tryd.prog 64 #[.int .u64 x] w fun e w' => e = .returned (.int .i64 (Lib.bitLen x.toNat)) ∧ w' = w := Any.bits_Len64 Tryd.lays129 x w h0 h1
def Tryd.lays317_ren : Go.Shelf.Ren := ⟨fun | 317 => 63 | n => n, fun | 3 => 3 | 46 => 80 | n => n, fun | n => n⟩
theorem Tryd.lays317 : Go.Proofs.Lays.n317 Tryd.prog Tryd.lays317_ren := {
  mixed := by kernel_rfl
  f317 := Tryd.func63.trans (congrArg some (by kernel_rfl))
  t3 := Tryd.underlying3
  a3 := Tryd.isAgg3
  z3 := Tryd.sizeOf3
  v3 := Tryd.zeroValue3
  t46 := Tryd.underlying80
  a46 := Tryd.isAgg80
  z46 := Tryd.sizeOf80
  v46 := Tryd.zeroValue80 }
open Go.Lib in
/-- internal/strconv.log10Pow2: "log10Pow2(x) returns ⌊log₁₀ 2**x⌋ = ⌊x * log₁₀ 2⌋.": '(x * 78913) >> 18', at an x up to 64 (a length in bits). The world is as it was. (LAID: no walk: one application.) -/
theorem Tryd.internal_strconv_log10Pow2 (x : Nat) (h : x ≤ 64) (w : World) :
    Calls Tryd.prog 63 #[.int .i64 x] w fun e w' => e = .returned (.int .i64 (Lib.l10 x)) ∧ w' = w := Any.internal_strconv_log10Pow2 Tryd.lays317 x h w
def Tryd.lays318_ren : Go.Shelf.Ren := ⟨fun | 318 => 65 | n => n, fun | 3 => 3 | 4 => 4 | n => n, fun | n => n⟩
theorem Tryd.lays318 : Go.Proofs.Lays.n318 Tryd.prog Tryd.lays318_ren := {
  mixed := by kernel_rfl
  f318 := Tryd.func65.trans (congrArg some (by kernel_rfl))
  t3 := Tryd.underlying3
  a3 := Tryd.isAgg3
  z3 := Tryd.sizeOf3
  v3 := Tryd.zeroValue3
  t4 := Tryd.underlying4
  a4 := Tryd.isAgg4
  z4 := Tryd.sizeOf4
  v4 := Tryd.zeroValue4 }
open Go.Lib in
/-- internal/strconv.bool2: "bool2 converts b to an integer: 1 for true, 0 for false." The world is as it was. (LAID: no walk: one application.) -/
theorem Tryd.internal_strconv_bool2_int (b : Bool) (w : World) :
    Calls Tryd.prog 65 #[.bool b] w fun e w' => e = .returned (.int .i64 (if b then 1 else 0)) ∧ w' = w := Any.internal_strconv_bool2_int Tryd.lays318 b w
def Tryd.lays283_ren : Go.Shelf.Ren := ⟨fun | 283 => 55 | n => n, fun | 3 => 3 | 9 => 9 | 4 => 4 | n => n, fun | n => n⟩
theorem Tryd.lays283 : Go.Proofs.Lays.n283 Tryd.prog Tryd.lays283_ren := {
  mixed := by kernel_rfl
  f283 := Tryd.func55.trans (congrArg some (by kernel_rfl))
  t3 := Tryd.underlying3
  a3 := Tryd.isAgg3
  z3 := Tryd.sizeOf3
  v3 := Tryd.zeroValue3
  t4 := Tryd.underlying4
  a4 := Tryd.isAgg4
  z4 := Tryd.sizeOf4
  v4 := Tryd.zeroValue4
  t9 := Tryd.underlying9
  a9 := Tryd.isAgg9
  z9 := Tryd.sizeOf9
  v9 := Tryd.zeroValue9 }
open Go.Lib in
/-- internal/strconv.small: "small returns the string for an i with 0 <= i < nSmalls.": i's decimal numeral. The world is as it was. (LAID: no walk: one application.) -/
theorem Tryd.internal_strconv_small (i : Nat) (h : i < 100) (w : World) :
    Calls Tryd.prog 55 #[.int .i64 i] w fun e w' => e = .returned (.string ⟨(Lib.decDigits i).toArray⟩) ∧ w' = w := Any.internal_strconv_small Tryd.lays283 i h w
def Tryd.laysM284_ren : Go.Shelf.Ren := ⟨fun | 284 => 56 | 129 => 64 | 317 => 63 | 318 => 65 | n => n, fun | 53 => 68 | 3 => 3 | 212 => 77 | 0 => 0 | 4 => 4 | 46 => 80 | 5 => 5 | 9 => 9 | n => n, fun | 17 => 0 | n => n⟩
theorem Tryd.laysM284 : Go.Proofs.LaysM.n284 Tryd.prog Tryd.laysM284_ren := {
  mixed := by kernel_rfl
  f129 := Tryd.func64.trans (congrArg some (by kernel_rfl))
  f284 := Tryd.func56.trans (congrArg some (by kernel_rfl))
  f317 := Tryd.func63.trans (congrArg some (by kernel_rfl))
  f318 := Tryd.func65.trans (congrArg some (by kernel_rfl))
  t0 := Tryd.underlying0
  a0 := Tryd.isAgg0
  z0 := Tryd.sizeOf0
  v0 := Tryd.zeroValue0
  t3 := Tryd.underlying3
  a3 := Tryd.isAgg3
  z3 := Tryd.sizeOf3
  v3 := Tryd.zeroValue3
  t4 := Tryd.underlying4
  a4 := Tryd.isAgg4
  z4 := Tryd.sizeOf4
  v4 := Tryd.zeroValue4
  t5 := Tryd.underlying5
  a5 := Tryd.isAgg5
  z5 := Tryd.sizeOf5
  v5 := Tryd.zeroValue5
  t9 := Tryd.underlying9
  a9 := Tryd.isAgg9
  z9 := Tryd.sizeOf9
  v9 := Tryd.zeroValue9
  t46 := Tryd.underlying80
  a46 := Tryd.isAgg80
  z46 := Tryd.sizeOf80
  v46 := Tryd.zeroValue80
  t53 := Tryd.underlying68
  a53 := Tryd.isAgg68
  z53 := Tryd.sizeOf68
  v53 := Tryd.zeroValue68
  t212 := Tryd.underlying77
  a212 := Tryd.isAgg77
  z212 := Tryd.sizeOf77
  v212 := Tryd.zeroValue77
  g17 := by kernel_rfl
  i0 := by kernel_rfl
  i3 := by kernel_rfl
  i4 := by kernel_rfl
  i5 := by kernel_rfl
  i9 := by kernel_rfl
  i46 := by kernel_rfl
  i53 := by kernel_rfl
  i212 := by kernel_rfl
  m17 := by kernel_rfl }
open Go.Lib in
/-- internal/strconv.numDigits, at a d that is not 0: THE NUMBER OF d's DECIMAL DIGITS. The world is as it was. (LAID: no walk: one application.) -/
theorem Tryd.internal_strconv_numDigits (u : Nat) (h1 : 1 ≤ u) (h2 : u < 18446744073709551616) (w : World) (htab : Lib.TabIs Tryd.prog w "internal/strconv.uint64pow10" .u64 Lib.pow10Tab) :
    Calls Tryd.prog 56 #[.int .u64 u] w fun e w' => e = .returned (.int .i64 (Lib.nDigits u)) ∧ w' = w := Any.internal_strconv_numDigits Tryd.laysM284 u h1 h2 w htab
def Tryd.lays285_ren : Go.Shelf.Ren := ⟨fun | 285 => 57 | n => n, fun | 37 => 71 | 53 => 68 | 3 => 3 | 4 => 4 | 51 => 78 | 9 => 9 | 5 => 5 | 0 => 0 | n => n, fun | n => n⟩
theorem Tryd.lays285 : Go.Proofs.Lays.n285 Tryd.prog Tryd.lays285_ren := {
  mixed := by kernel_rfl
  f285 := Tryd.func57.trans (congrArg some (by kernel_rfl))
  t0 := Tryd.underlying0
  a0 := Tryd.isAgg0
  z0 := Tryd.sizeOf0
  v0 := Tryd.zeroValue0
  t3 := Tryd.underlying3
  a3 := Tryd.isAgg3
  z3 := Tryd.sizeOf3
  v3 := Tryd.zeroValue3
  t4 := Tryd.underlying4
  a4 := Tryd.isAgg4
  z4 := Tryd.sizeOf4
  v4 := Tryd.zeroValue4
  t5 := Tryd.underlying5
  a5 := Tryd.isAgg5
  z5 := Tryd.sizeOf5
  v5 := Tryd.zeroValue5
  t9 := Tryd.underlying9
  a9 := Tryd.isAgg9
  z9 := Tryd.sizeOf9
  v9 := Tryd.zeroValue9
  t37 := Tryd.underlying71
  a37 := Tryd.isAgg71
  z37 := Tryd.sizeOf71
  v37 := Tryd.zeroValue71
  t51 := Tryd.underlying78
  a51 := Tryd.isAgg78
  z51 := Tryd.sizeOf78
  v51 := Tryd.zeroValue78
  t53 := Tryd.underlying68
  a53 := Tryd.isAgg68
  z53 := Tryd.sizeOf68
  v53 := Tryd.zeroValue68 }
open Go.RowKit Go.Sort Go.Lib in
/-- internal/strconv.formatBase10: "formatBase10 formats the decimal representation of u into a. The caller is responsible for ensuring that a is big enough to hold u. If a is too big, leading zeros will be filled in as needed.": THE ROW HOLDS u's DIGITS ('FmtInv .. 0 ..': every place t holds 'dg u (len - 1 - t)'); all else is as it was but for the count of draws. (LAID: no walk: one application.) -/
theorem Tryd.internal_strconv_formatBase10 (blk off cap : Nat) (u : Nat) (d : Array UInt8) (w : World) (hH : Holds (fun (b : UInt8) => Value.int .u8 (b.toNat : Int)) w blk off d) (hu : u < 10 ^ d.size) (hu64 : u < 18446744073709551616) (hsz : d.size < 4611686018427387904) :
    Calls Tryd.prog 57 #[.slice (some ⟨blk, off, none⟩) d.size cap, .int .u64 u] w fun e w' =>
      e = .returned (.tuple #[]) ∧ ∃ (n v' : Nat) (dk : Array UInt8), w' = (putRow (fun (b : UInt8) => Value.int .u8 (b.toNat : Int)) w blk off dk).drewN n ∧ FmtInv d.size u 0 v' dk := Any.internal_strconv_formatBase10 Tryd.lays285 blk off cap u d w hH hu hu64 hsz
def Tryd.laysM246_ren : Go.Shelf.Ren := ⟨fun | 246 => 46 | 283 => 55 | 284 => 56 | 285 => 57 | 286 => 58 | 129 => 64 | 317 => 63 | 318 => 65 | 319 => 66 | 320 => 67 | 337 => 68 | 338 => 69 | n => n, fun | 2 => 2 | 3 => 3 | 9 => 9 | 4 => 4 | 171 => 67 | 0 => 0 | 53 => 68 | 37 => 71 | 5 => 5 | 173 => 72 | 212 => 77 | 51 => 78 | 20 => 20 | 213 => 79 | 46 => 80 | 232 => 83 | 233 => 84 | n => n, fun | 17 => 0 | 18 => 1 | 19 => 2 | n => n⟩
theorem Tryd.laysM246 : Go.Proofs.LaysM.n246 Tryd.prog Tryd.laysM246_ren := {
  mixed := by kernel_rfl
  f129 := Tryd.func64.trans (congrArg some (by kernel_rfl))
  f246 := Tryd.func46.trans (congrArg some (by kernel_rfl))
  f283 := Tryd.func55.trans (congrArg some (by kernel_rfl))
  f284 := Tryd.func56.trans (congrArg some (by kernel_rfl))
  f285 := Tryd.func57.trans (congrArg some (by kernel_rfl))
  f286 := Tryd.func58.trans (congrArg some (by kernel_rfl))
  f317 := Tryd.func63.trans (congrArg some (by kernel_rfl))
  f318 := Tryd.func65.trans (congrArg some (by kernel_rfl))
  f319 := Tryd.func66.trans (congrArg some (by kernel_rfl))
  f320 := Tryd.func67.trans (congrArg some (by kernel_rfl))
  f337 := Tryd.func68.trans (congrArg some (by kernel_rfl))
  f338 := Tryd.func69.trans (congrArg some (by kernel_rfl))
  t0 := Tryd.underlying0
  a0 := Tryd.isAgg0
  z0 := Tryd.sizeOf0
  v0 := Tryd.zeroValue0
  t2 := Tryd.underlying2
  a2 := Tryd.isAgg2
  z2 := Tryd.sizeOf2
  v2 := Tryd.zeroValue2
  t3 := Tryd.underlying3
  a3 := Tryd.isAgg3
  z3 := Tryd.sizeOf3
  v3 := Tryd.zeroValue3
  t4 := Tryd.underlying4
  a4 := Tryd.isAgg4
  z4 := Tryd.sizeOf4
  v4 := Tryd.zeroValue4
  t5 := Tryd.underlying5
  a5 := Tryd.isAgg5
  z5 := Tryd.sizeOf5
  v5 := Tryd.zeroValue5
  t9 := Tryd.underlying9
  a9 := Tryd.isAgg9
  z9 := Tryd.sizeOf9
  v9 := Tryd.zeroValue9
  t20 := Tryd.underlying20
  a20 := Tryd.isAgg20
  z20 := Tryd.sizeOf20
  v20 := Tryd.zeroValue20
  t37 := Tryd.underlying71
  a37 := Tryd.isAgg71
  z37 := Tryd.sizeOf71
  v37 := Tryd.zeroValue71
  t46 := Tryd.underlying80
  a46 := Tryd.isAgg80
  z46 := Tryd.sizeOf80
  v46 := Tryd.zeroValue80
  t51 := Tryd.underlying78
  a51 := Tryd.isAgg78
  z51 := Tryd.sizeOf78
  v51 := Tryd.zeroValue78
  t53 := Tryd.underlying68
  a53 := Tryd.isAgg68
  z53 := Tryd.sizeOf68
  v53 := Tryd.zeroValue68
  t171 := Tryd.underlying67
  a171 := Tryd.isAgg67
  z171 := Tryd.sizeOf67
  v171 := Tryd.zeroValue67
  t173 := Tryd.underlying72
  a173 := Tryd.isAgg72
  z173 := Tryd.sizeOf72
  v173 := Tryd.zeroValue72
  t212 := Tryd.underlying77
  a212 := Tryd.isAgg77
  z212 := Tryd.sizeOf77
  v212 := Tryd.zeroValue77
  t213 := Tryd.underlying79
  a213 := Tryd.isAgg79
  z213 := Tryd.sizeOf79
  t232 := Tryd.underlying83
  a232 := Tryd.isAgg83
  z232 := Tryd.sizeOf83
  v232 := Tryd.zeroValue83
  t233 := Tryd.underlying84
  a233 := Tryd.isAgg84
  z233 := Tryd.sizeOf84
  v233 := Tryd.zeroValue84
  g17 := by kernel_rfl
  g18 := by kernel_rfl
  g19 := by kernel_rfl
  i0 := by kernel_rfl
  i2 := by kernel_rfl
  i3 := by kernel_rfl
  i4 := by kernel_rfl
  i5 := by kernel_rfl
  i9 := by kernel_rfl
  i20 := by kernel_rfl
  i37 := by kernel_rfl
  i46 := by kernel_rfl
  i51 := by kernel_rfl
  i53 := by kernel_rfl
  i171 := by kernel_rfl
  i173 := by kernel_rfl
  i212 := by kernel_rfl
  i232 := by kernel_rfl
  i233 := by kernel_rfl
  m17 := by kernel_rfl
  m18 := by kernel_rfl
  m19 := by kernel_rfl }
open Go.RowKit Go.Sort Go.Lib in
/-- internal/strconv.FormatInt: "FormatInt returns the string representation of i in the given base": AT BASE 10: i's decimal numeral, for every int64. The world behind the call: the world before it, new blocks behind the heap, draws. (LAID: no walk: one application.) -/
theorem Tryd.internal_strconv_FormatInt_10 (n : Int) (h0 : -9223372036854775808 ≤ n) (h1 : n ≤ 9223372036854775807) (w : World) (htab : Lib.TabIs Tryd.prog w "internal/strconv.uint64pow10" .u64 Lib.pow10Tab) :
    Calls Tryd.prog 46 #[.int .i64 n, .int .i64 10] w fun e w' => e = .returned (.string ⟨(Lib.itoa n).toArray⟩) ∧ ∃ k os, w' = grow (w.drewN k) os := Any.internal_strconv_FormatInt_10 Tryd.laysM246 n h0 h1 w htab
def Tryd.lays246_ren : Go.Shelf.Ren := ⟨fun | 246 => 46 | 283 => 55 | 284 => 56 | 285 => 57 | 286 => 58 | 129 => 64 | 317 => 63 | 318 => 65 | 319 => 66 | 320 => 67 | 337 => 68 | 338 => 69 | n => n, fun | 2 => 2 | 3 => 3 | 9 => 9 | 4 => 4 | 171 => 67 | 0 => 0 | 53 => 68 | 37 => 71 | 5 => 5 | 173 => 72 | 212 => 77 | 51 => 78 | 20 => 20 | 213 => 79 | 46 => 80 | 232 => 83 | 233 => 84 | n => n, fun | 17 => 0 | 18 => 1 | 19 => 2 | n => n⟩
theorem Tryd.lays246 : Go.Proofs.Lays.n246 Tryd.prog Tryd.lays246_ren := {
  mixed := by kernel_rfl
  f129 := Tryd.func64.trans (congrArg some (by kernel_rfl))
  f246 := Tryd.func46.trans (congrArg some (by kernel_rfl))
  f283 := Tryd.func55.trans (congrArg some (by kernel_rfl))
  f284 := Tryd.func56.trans (congrArg some (by kernel_rfl))
  f285 := Tryd.func57.trans (congrArg some (by kernel_rfl))
  f286 := Tryd.func58.trans (congrArg some (by kernel_rfl))
  f317 := Tryd.func63.trans (congrArg some (by kernel_rfl))
  f318 := Tryd.func65.trans (congrArg some (by kernel_rfl))
  f319 := Tryd.func66.trans (congrArg some (by kernel_rfl))
  f320 := Tryd.func67.trans (congrArg some (by kernel_rfl))
  f337 := Tryd.func68.trans (congrArg some (by kernel_rfl))
  f338 := Tryd.func69.trans (congrArg some (by kernel_rfl))
  t0 := Tryd.underlying0
  a0 := Tryd.isAgg0
  z0 := Tryd.sizeOf0
  v0 := Tryd.zeroValue0
  t2 := Tryd.underlying2
  a2 := Tryd.isAgg2
  z2 := Tryd.sizeOf2
  v2 := Tryd.zeroValue2
  t3 := Tryd.underlying3
  a3 := Tryd.isAgg3
  z3 := Tryd.sizeOf3
  v3 := Tryd.zeroValue3
  t4 := Tryd.underlying4
  a4 := Tryd.isAgg4
  z4 := Tryd.sizeOf4
  v4 := Tryd.zeroValue4
  t5 := Tryd.underlying5
  a5 := Tryd.isAgg5
  z5 := Tryd.sizeOf5
  v5 := Tryd.zeroValue5
  t9 := Tryd.underlying9
  a9 := Tryd.isAgg9
  z9 := Tryd.sizeOf9
  v9 := Tryd.zeroValue9
  t20 := Tryd.underlying20
  a20 := Tryd.isAgg20
  z20 := Tryd.sizeOf20
  v20 := Tryd.zeroValue20
  t37 := Tryd.underlying71
  a37 := Tryd.isAgg71
  z37 := Tryd.sizeOf71
  v37 := Tryd.zeroValue71
  t46 := Tryd.underlying80
  a46 := Tryd.isAgg80
  z46 := Tryd.sizeOf80
  v46 := Tryd.zeroValue80
  t51 := Tryd.underlying78
  a51 := Tryd.isAgg78
  z51 := Tryd.sizeOf78
  v51 := Tryd.zeroValue78
  t53 := Tryd.underlying68
  a53 := Tryd.isAgg68
  z53 := Tryd.sizeOf68
  v53 := Tryd.zeroValue68
  t171 := Tryd.underlying67
  a171 := Tryd.isAgg67
  z171 := Tryd.sizeOf67
  v171 := Tryd.zeroValue67
  t173 := Tryd.underlying72
  a173 := Tryd.isAgg72
  z173 := Tryd.sizeOf72
  v173 := Tryd.zeroValue72
  t212 := Tryd.underlying77
  a212 := Tryd.isAgg77
  z212 := Tryd.sizeOf77
  v212 := Tryd.zeroValue77
  t213 := Tryd.underlying79
  a213 := Tryd.isAgg79
  z213 := Tryd.sizeOf79
  t232 := Tryd.underlying83
  a232 := Tryd.isAgg83
  z232 := Tryd.sizeOf83
  v232 := Tryd.zeroValue83
  t233 := Tryd.underlying84
  a233 := Tryd.isAgg84
  z233 := Tryd.sizeOf84
  v233 := Tryd.zeroValue84
  g17 := by kernel_rfl
  g18 := by kernel_rfl
  g19 := by kernel_rfl }
open Go.RowKit Go.Sort Go.Lib in
/-- THE ROAD WITHOUT THE TABLE: 0 <= i < 100: two constants are read, nothing is laid: no premise on the world, and the world is as it was. (LAID: no walk: one application.) -/
theorem Tryd.internal_strconv_FormatInt_10_small (i : Nat) (hi : i < 100) (w : World) :
    Calls Tryd.prog 46 #[.int .i64 i, .int .i64 10] w fun e w' => e = .returned (.string ⟨(Lib.decDigits i).toArray⟩) ∧ w' = w := Any.internal_strconv_FormatInt_10_small Tryd.lays246 i hi w
def Tryd.laysM243_ren : Go.Shelf.Ren := ⟨fun | 243 => 38 | 246 => 46 | 283 => 55 | 284 => 56 | 285 => 57 | 286 => 58 | 129 => 64 | 317 => 63 | 318 => 65 | 319 => 66 | 320 => 67 | 337 => 68 | 338 => 69 | n => n, fun | 3 => 3 | 9 => 9 | 2 => 2 | 4 => 4 | 171 => 67 | 0 => 0 | 53 => 68 | 37 => 71 | 5 => 5 | 173 => 72 | 212 => 77 | 51 => 78 | 20 => 20 | 213 => 79 | 46 => 80 | 232 => 83 | 233 => 84 | n => n, fun | 17 => 0 | 18 => 1 | 19 => 2 | n => n⟩
theorem Tryd.laysM243 : Go.Proofs.LaysM.n243 Tryd.prog Tryd.laysM243_ren := {
  mixed := by kernel_rfl
  f129 := Tryd.func64.trans (congrArg some (by kernel_rfl))
  f243 := Tryd.func38.trans (congrArg some (by kernel_rfl))
  f246 := Tryd.func46.trans (congrArg some (by kernel_rfl))
  f283 := Tryd.func55.trans (congrArg some (by kernel_rfl))
  f284 := Tryd.func56.trans (congrArg some (by kernel_rfl))
  f285 := Tryd.func57.trans (congrArg some (by kernel_rfl))
  f286 := Tryd.func58.trans (congrArg some (by kernel_rfl))
  f317 := Tryd.func63.trans (congrArg some (by kernel_rfl))
  f318 := Tryd.func65.trans (congrArg some (by kernel_rfl))
  f319 := Tryd.func66.trans (congrArg some (by kernel_rfl))
  f320 := Tryd.func67.trans (congrArg some (by kernel_rfl))
  f337 := Tryd.func68.trans (congrArg some (by kernel_rfl))
  f338 := Tryd.func69.trans (congrArg some (by kernel_rfl))
  t0 := Tryd.underlying0
  a0 := Tryd.isAgg0
  z0 := Tryd.sizeOf0
  v0 := Tryd.zeroValue0
  t2 := Tryd.underlying2
  a2 := Tryd.isAgg2
  z2 := Tryd.sizeOf2
  v2 := Tryd.zeroValue2
  t3 := Tryd.underlying3
  a3 := Tryd.isAgg3
  z3 := Tryd.sizeOf3
  v3 := Tryd.zeroValue3
  t4 := Tryd.underlying4
  a4 := Tryd.isAgg4
  z4 := Tryd.sizeOf4
  v4 := Tryd.zeroValue4
  t5 := Tryd.underlying5
  a5 := Tryd.isAgg5
  z5 := Tryd.sizeOf5
  v5 := Tryd.zeroValue5
  t9 := Tryd.underlying9
  a9 := Tryd.isAgg9
  z9 := Tryd.sizeOf9
  v9 := Tryd.zeroValue9
  t20 := Tryd.underlying20
  a20 := Tryd.isAgg20
  z20 := Tryd.sizeOf20
  v20 := Tryd.zeroValue20
  t37 := Tryd.underlying71
  a37 := Tryd.isAgg71
  z37 := Tryd.sizeOf71
  v37 := Tryd.zeroValue71
  t46 := Tryd.underlying80
  a46 := Tryd.isAgg80
  z46 := Tryd.sizeOf80
  v46 := Tryd.zeroValue80
  t51 := Tryd.underlying78
  a51 := Tryd.isAgg78
  z51 := Tryd.sizeOf78
  v51 := Tryd.zeroValue78
  t53 := Tryd.underlying68
  a53 := Tryd.isAgg68
  z53 := Tryd.sizeOf68
  v53 := Tryd.zeroValue68
  t171 := Tryd.underlying67
  a171 := Tryd.isAgg67
  z171 := Tryd.sizeOf67
  v171 := Tryd.zeroValue67
  t173 := Tryd.underlying72
  a173 := Tryd.isAgg72
  z173 := Tryd.sizeOf72
  v173 := Tryd.zeroValue72
  t212 := Tryd.underlying77
  a212 := Tryd.isAgg77
  z212 := Tryd.sizeOf77
  v212 := Tryd.zeroValue77
  t213 := Tryd.underlying79
  a213 := Tryd.isAgg79
  z213 := Tryd.sizeOf79
  t232 := Tryd.underlying83
  a232 := Tryd.isAgg83
  z232 := Tryd.sizeOf83
  v232 := Tryd.zeroValue83
  t233 := Tryd.underlying84
  a233 := Tryd.isAgg84
  z233 := Tryd.sizeOf84
  v233 := Tryd.zeroValue84
  g17 := by kernel_rfl
  g18 := by kernel_rfl
  g19 := by kernel_rfl
  i0 := by kernel_rfl
  i2 := by kernel_rfl
  i3 := by kernel_rfl
  i4 := by kernel_rfl
  i5 := by kernel_rfl
  i9 := by kernel_rfl
  i20 := by kernel_rfl
  i37 := by kernel_rfl
  i46 := by kernel_rfl
  i51 := by kernel_rfl
  i53 := by kernel_rfl
  i171 := by kernel_rfl
  i173 := by kernel_rfl
  i212 := by kernel_rfl
  i232 := by kernel_rfl
  i233 := by kernel_rfl
  m17 := by kernel_rfl
  m18 := by kernel_rfl
  m19 := by kernel_rfl }
open Go.RowKit Go.Sort Go.Lib in
/-- internal/strconv.Itoa: "Itoa is equivalent to FormatInt(int64(i), 10).": i's decimal numeral, for every int. (LAID: no walk: one application.) -/
theorem Tryd.internal_strconv_Itoa (n : Int) (h0 : -9223372036854775808 ≤ n) (h1 : n ≤ 9223372036854775807) (w : World) (htab : Lib.TabIs Tryd.prog w "internal/strconv.uint64pow10" .u64 Lib.pow10Tab) :
    Calls Tryd.prog 38 #[.int .i64 n] w fun e w' => e = .returned (.string ⟨(Lib.itoa n).toArray⟩) ∧ ∃ k os, w' = grow (w.drewN k) os := Any.internal_strconv_Itoa Tryd.laysM243 n h0 h1 w htab
def Tryd.lays243_ren : Go.Shelf.Ren := ⟨fun | 243 => 38 | 246 => 46 | 283 => 55 | 284 => 56 | 285 => 57 | 286 => 58 | 129 => 64 | 317 => 63 | 318 => 65 | 319 => 66 | 320 => 67 | 337 => 68 | 338 => 69 | n => n, fun | 3 => 3 | 9 => 9 | 2 => 2 | 4 => 4 | 171 => 67 | 0 => 0 | 53 => 68 | 37 => 71 | 5 => 5 | 173 => 72 | 212 => 77 | 51 => 78 | 20 => 20 | 213 => 79 | 46 => 80 | 232 => 83 | 233 => 84 | n => n, fun | 17 => 0 | 18 => 1 | 19 => 2 | n => n⟩
theorem Tryd.lays243 : Go.Proofs.Lays.n243 Tryd.prog Tryd.lays243_ren := {
  mixed := by kernel_rfl
  f129 := Tryd.func64.trans (congrArg some (by kernel_rfl))
  f243 := Tryd.func38.trans (congrArg some (by kernel_rfl))
  f246 := Tryd.func46.trans (congrArg some (by kernel_rfl))
  f283 := Tryd.func55.trans (congrArg some (by kernel_rfl))
  f284 := Tryd.func56.trans (congrArg some (by kernel_rfl))
  f285 := Tryd.func57.trans (congrArg some (by kernel_rfl))
  f286 := Tryd.func58.trans (congrArg some (by kernel_rfl))
  f317 := Tryd.func63.trans (congrArg some (by kernel_rfl))
  f318 := Tryd.func65.trans (congrArg some (by kernel_rfl))
  f319 := Tryd.func66.trans (congrArg some (by kernel_rfl))
  f320 := Tryd.func67.trans (congrArg some (by kernel_rfl))
  f337 := Tryd.func68.trans (congrArg some (by kernel_rfl))
  f338 := Tryd.func69.trans (congrArg some (by kernel_rfl))
  t0 := Tryd.underlying0
  a0 := Tryd.isAgg0
  z0 := Tryd.sizeOf0
  v0 := Tryd.zeroValue0
  t2 := Tryd.underlying2
  a2 := Tryd.isAgg2
  z2 := Tryd.sizeOf2
  v2 := Tryd.zeroValue2
  t3 := Tryd.underlying3
  a3 := Tryd.isAgg3
  z3 := Tryd.sizeOf3
  v3 := Tryd.zeroValue3
  t4 := Tryd.underlying4
  a4 := Tryd.isAgg4
  z4 := Tryd.sizeOf4
  v4 := Tryd.zeroValue4
  t5 := Tryd.underlying5
  a5 := Tryd.isAgg5
  z5 := Tryd.sizeOf5
  v5 := Tryd.zeroValue5
  t9 := Tryd.underlying9
  a9 := Tryd.isAgg9
  z9 := Tryd.sizeOf9
  v9 := Tryd.zeroValue9
  t20 := Tryd.underlying20
  a20 := Tryd.isAgg20
  z20 := Tryd.sizeOf20
  v20 := Tryd.zeroValue20
  t37 := Tryd.underlying71
  a37 := Tryd.isAgg71
  z37 := Tryd.sizeOf71
  v37 := Tryd.zeroValue71
  t46 := Tryd.underlying80
  a46 := Tryd.isAgg80
  z46 := Tryd.sizeOf80
  v46 := Tryd.zeroValue80
  t51 := Tryd.underlying78
  a51 := Tryd.isAgg78
  z51 := Tryd.sizeOf78
  v51 := Tryd.zeroValue78
  t53 := Tryd.underlying68
  a53 := Tryd.isAgg68
  z53 := Tryd.sizeOf68
  v53 := Tryd.zeroValue68
  t171 := Tryd.underlying67
  a171 := Tryd.isAgg67
  z171 := Tryd.sizeOf67
  v171 := Tryd.zeroValue67
  t173 := Tryd.underlying72
  a173 := Tryd.isAgg72
  z173 := Tryd.sizeOf72
  v173 := Tryd.zeroValue72
  t212 := Tryd.underlying77
  a212 := Tryd.isAgg77
  z212 := Tryd.sizeOf77
  v212 := Tryd.zeroValue77
  t213 := Tryd.underlying79
  a213 := Tryd.isAgg79
  z213 := Tryd.sizeOf79
  t232 := Tryd.underlying83
  a232 := Tryd.isAgg83
  z232 := Tryd.sizeOf83
  v232 := Tryd.zeroValue83
  t233 := Tryd.underlying84
  a233 := Tryd.isAgg84
  z233 := Tryd.sizeOf84
  v233 := Tryd.zeroValue84
  g17 := by kernel_rfl
  g18 := by kernel_rfl
  g19 := by kernel_rfl }
open Go.RowKit Go.Sort Go.Lib in
/-- THE ROAD WITHOUT THE TABLE: 0 <= i < 100. (LAID: no walk: one application.) -/
theorem Tryd.internal_strconv_Itoa_small (i : Nat) (hi : i < 100) (w : World) :
    Calls Tryd.prog 38 #[.int .i64 i] w fun e w' => e = .returned (.string ⟨(Lib.decDigits i).toArray⟩) ∧ w' = w := Any.internal_strconv_Itoa_small Tryd.lays243 i hi w
def Tryd.laysM171_ren : Go.Shelf.Ren := ⟨fun | 171 => 27 | 243 => 38 | 246 => 46 | 283 => 55 | 284 => 56 | 285 => 57 | 286 => 58 | 129 => 64 | 317 => 63 | 318 => 65 | 319 => 66 | 320 => 67 | 337 => 68 | 338 => 69 | n => n, fun | 3 => 3 | 9 => 9 | 2 => 2 | 4 => 4 | 171 => 67 | 0 => 0 | 53 => 68 | 37 => 71 | 5 => 5 | 173 => 72 | 212 => 77 | 51 => 78 | 20 => 20 | 213 => 79 | 46 => 80 | 232 => 83 | 233 => 84 | n => n, fun | 17 => 0 | 18 => 1 | 19 => 2 | n => n⟩
theorem Tryd.laysM171 : Go.Proofs.LaysM.n171 Tryd.prog Tryd.laysM171_ren := {
  mixed := by kernel_rfl
  f129 := Tryd.func64.trans (congrArg some (by kernel_rfl))
  f171 := Tryd.func27.trans (congrArg some (by kernel_rfl))
  f243 := Tryd.func38.trans (congrArg some (by kernel_rfl))
  f246 := Tryd.func46.trans (congrArg some (by kernel_rfl))
  f283 := Tryd.func55.trans (congrArg some (by kernel_rfl))
  f284 := Tryd.func56.trans (congrArg some (by kernel_rfl))
  f285 := Tryd.func57.trans (congrArg some (by kernel_rfl))
  f286 := Tryd.func58.trans (congrArg some (by kernel_rfl))
  f317 := Tryd.func63.trans (congrArg some (by kernel_rfl))
  f318 := Tryd.func65.trans (congrArg some (by kernel_rfl))
  f319 := Tryd.func66.trans (congrArg some (by kernel_rfl))
  f320 := Tryd.func67.trans (congrArg some (by kernel_rfl))
  f337 := Tryd.func68.trans (congrArg some (by kernel_rfl))
  f338 := Tryd.func69.trans (congrArg some (by kernel_rfl))
  t0 := Tryd.underlying0
  a0 := Tryd.isAgg0
  z0 := Tryd.sizeOf0
  v0 := Tryd.zeroValue0
  t2 := Tryd.underlying2
  a2 := Tryd.isAgg2
  z2 := Tryd.sizeOf2
  v2 := Tryd.zeroValue2
  t3 := Tryd.underlying3
  a3 := Tryd.isAgg3
  z3 := Tryd.sizeOf3
  v3 := Tryd.zeroValue3
  t4 := Tryd.underlying4
  a4 := Tryd.isAgg4
  z4 := Tryd.sizeOf4
  v4 := Tryd.zeroValue4
  t5 := Tryd.underlying5
  a5 := Tryd.isAgg5
  z5 := Tryd.sizeOf5
  v5 := Tryd.zeroValue5
  t9 := Tryd.underlying9
  a9 := Tryd.isAgg9
  z9 := Tryd.sizeOf9
  v9 := Tryd.zeroValue9
  t20 := Tryd.underlying20
  a20 := Tryd.isAgg20
  z20 := Tryd.sizeOf20
  v20 := Tryd.zeroValue20
  t37 := Tryd.underlying71
  a37 := Tryd.isAgg71
  z37 := Tryd.sizeOf71
  v37 := Tryd.zeroValue71
  t46 := Tryd.underlying80
  a46 := Tryd.isAgg80
  z46 := Tryd.sizeOf80
  v46 := Tryd.zeroValue80
  t51 := Tryd.underlying78
  a51 := Tryd.isAgg78
  z51 := Tryd.sizeOf78
  v51 := Tryd.zeroValue78
  t53 := Tryd.underlying68
  a53 := Tryd.isAgg68
  z53 := Tryd.sizeOf68
  v53 := Tryd.zeroValue68
  t171 := Tryd.underlying67
  a171 := Tryd.isAgg67
  z171 := Tryd.sizeOf67
  v171 := Tryd.zeroValue67
  t173 := Tryd.underlying72
  a173 := Tryd.isAgg72
  z173 := Tryd.sizeOf72
  v173 := Tryd.zeroValue72
  t212 := Tryd.underlying77
  a212 := Tryd.isAgg77
  z212 := Tryd.sizeOf77
  v212 := Tryd.zeroValue77
  t213 := Tryd.underlying79
  a213 := Tryd.isAgg79
  z213 := Tryd.sizeOf79
  t232 := Tryd.underlying83
  a232 := Tryd.isAgg83
  z232 := Tryd.sizeOf83
  v232 := Tryd.zeroValue83
  t233 := Tryd.underlying84
  a233 := Tryd.isAgg84
  z233 := Tryd.sizeOf84
  v233 := Tryd.zeroValue84
  g17 := by kernel_rfl
  g18 := by kernel_rfl
  g19 := by kernel_rfl
  i0 := by kernel_rfl
  i2 := by kernel_rfl
  i3 := by kernel_rfl
  i4 := by kernel_rfl
  i5 := by kernel_rfl
  i9 := by kernel_rfl
  i20 := by kernel_rfl
  i37 := by kernel_rfl
  i46 := by kernel_rfl
  i51 := by kernel_rfl
  i53 := by kernel_rfl
  i171 := by kernel_rfl
  i173 := by kernel_rfl
  i212 := by kernel_rfl
  i232 := by kernel_rfl
  i233 := by kernel_rfl
  m17 := by kernel_rfl
  m18 := by kernel_rfl
  m19 := by kernel_rfl }
open Go.RowKit Go.Sort Go.Lib in
/-- strconv.Itoa: "Itoa is equivalent to FormatInt(int64(i), 10).": i's DECIMAL NUMERAL ('Lib.itoa': a '-' where i is negative, then the digits), FOR EVERY int. The world behind the call: the world before it, new blocks behind the heap (the library's 'var a [24]byte'), draws. (LAID: no walk: one application.) -/
theorem Tryd.strconv_Itoa (n : Int) (h0 : -9223372036854775808 ≤ n) (h1 : n ≤ 9223372036854775807) (w : World) (htab : Lib.TabIs Tryd.prog w "internal/strconv.uint64pow10" .u64 Lib.pow10Tab) :
    Calls Tryd.prog 27 #[.int .i64 n] w fun e w' => e = .returned (.string ⟨(Lib.itoa n).toArray⟩) ∧ ∃ k os, w' = grow (w.drewN k) os := Any.strconv_Itoa Tryd.laysM171 n h0 h1 w htab
def Tryd.lays171_ren : Go.Shelf.Ren := ⟨fun | 171 => 27 | 243 => 38 | 246 => 46 | 283 => 55 | 284 => 56 | 285 => 57 | 286 => 58 | 129 => 64 | 317 => 63 | 318 => 65 | 319 => 66 | 320 => 67 | 337 => 68 | 338 => 69 | n => n, fun | 3 => 3 | 9 => 9 | 2 => 2 | 4 => 4 | 171 => 67 | 0 => 0 | 53 => 68 | 37 => 71 | 5 => 5 | 173 => 72 | 212 => 77 | 51 => 78 | 20 => 20 | 213 => 79 | 46 => 80 | 232 => 83 | 233 => 84 | n => n, fun | 17 => 0 | 18 => 1 | 19 => 2 | n => n⟩
theorem Tryd.lays171 : Go.Proofs.Lays.n171 Tryd.prog Tryd.lays171_ren := {
  mixed := by kernel_rfl
  f129 := Tryd.func64.trans (congrArg some (by kernel_rfl))
  f171 := Tryd.func27.trans (congrArg some (by kernel_rfl))
  f243 := Tryd.func38.trans (congrArg some (by kernel_rfl))
  f246 := Tryd.func46.trans (congrArg some (by kernel_rfl))
  f283 := Tryd.func55.trans (congrArg some (by kernel_rfl))
  f284 := Tryd.func56.trans (congrArg some (by kernel_rfl))
  f285 := Tryd.func57.trans (congrArg some (by kernel_rfl))
  f286 := Tryd.func58.trans (congrArg some (by kernel_rfl))
  f317 := Tryd.func63.trans (congrArg some (by kernel_rfl))
  f318 := Tryd.func65.trans (congrArg some (by kernel_rfl))
  f319 := Tryd.func66.trans (congrArg some (by kernel_rfl))
  f320 := Tryd.func67.trans (congrArg some (by kernel_rfl))
  f337 := Tryd.func68.trans (congrArg some (by kernel_rfl))
  f338 := Tryd.func69.trans (congrArg some (by kernel_rfl))
  t0 := Tryd.underlying0
  a0 := Tryd.isAgg0
  z0 := Tryd.sizeOf0
  v0 := Tryd.zeroValue0
  t2 := Tryd.underlying2
  a2 := Tryd.isAgg2
  z2 := Tryd.sizeOf2
  v2 := Tryd.zeroValue2
  t3 := Tryd.underlying3
  a3 := Tryd.isAgg3
  z3 := Tryd.sizeOf3
  v3 := Tryd.zeroValue3
  t4 := Tryd.underlying4
  a4 := Tryd.isAgg4
  z4 := Tryd.sizeOf4
  v4 := Tryd.zeroValue4
  t5 := Tryd.underlying5
  a5 := Tryd.isAgg5
  z5 := Tryd.sizeOf5
  v5 := Tryd.zeroValue5
  t9 := Tryd.underlying9
  a9 := Tryd.isAgg9
  z9 := Tryd.sizeOf9
  v9 := Tryd.zeroValue9
  t20 := Tryd.underlying20
  a20 := Tryd.isAgg20
  z20 := Tryd.sizeOf20
  v20 := Tryd.zeroValue20
  t37 := Tryd.underlying71
  a37 := Tryd.isAgg71
  z37 := Tryd.sizeOf71
  v37 := Tryd.zeroValue71
  t46 := Tryd.underlying80
  a46 := Tryd.isAgg80
  z46 := Tryd.sizeOf80
  v46 := Tryd.zeroValue80
  t51 := Tryd.underlying78
  a51 := Tryd.isAgg78
  z51 := Tryd.sizeOf78
  v51 := Tryd.zeroValue78
  t53 := Tryd.underlying68
  a53 := Tryd.isAgg68
  z53 := Tryd.sizeOf68
  v53 := Tryd.zeroValue68
  t171 := Tryd.underlying67
  a171 := Tryd.isAgg67
  z171 := Tryd.sizeOf67
  v171 := Tryd.zeroValue67
  t173 := Tryd.underlying72
  a173 := Tryd.isAgg72
  z173 := Tryd.sizeOf72
  v173 := Tryd.zeroValue72
  t212 := Tryd.underlying77
  a212 := Tryd.isAgg77
  z212 := Tryd.sizeOf77
  v212 := Tryd.zeroValue77
  t213 := Tryd.underlying79
  a213 := Tryd.isAgg79
  z213 := Tryd.sizeOf79
  t232 := Tryd.underlying83
  a232 := Tryd.isAgg83
  z232 := Tryd.sizeOf83
  v232 := Tryd.zeroValue83
  t233 := Tryd.underlying84
  a233 := Tryd.isAgg84
  z233 := Tryd.sizeOf84
  v233 := Tryd.zeroValue84
  g17 := by kernel_rfl
  g18 := by kernel_rfl
  g19 := by kernel_rfl }
open Go.RowKit Go.Sort Go.Lib in
/-- THE ROAD WITHOUT THE TABLE: 0 <= i < 100: NO PREMISE ON THE WORLD, AND THE WORLD IS AS IT WAS: a row that keeps its argument in that range need list no table ('laid = []'). (LAID: no walk: one application.) -/
theorem Tryd.strconv_Itoa_small (i : Nat) (hi : i < 100) (w : World) :
    Calls Tryd.prog 27 #[.int .i64 i] w fun e w' => e = .returned (.string ⟨(Lib.decDigits i).toArray⟩) ∧ w' = w := Any.strconv_Itoa_small Tryd.lays171 i hi w
end Go.Proofs

set_option maxRecDepth 100000
set_option linter.unusedSimpArgs false
set_option linter.unusedVariables false
namespace Go.Proofs.YtfaaceakmfokoaaDoor
open Go Ab Pl
theorem strconv_Itoa (n : Int) (h0 : -9223372036854775808 ≤ n) (h1 : n ≤ 9223372036854775807) : ACalls E.P 27 [.int .i64 n] (.d (.str (Go.Lib.itoa n))) :=
  ACalls.itoa n ⟨_, Tryd.func27, by kernel_rfl, by kernel_rfl⟩ (by have := Go.Lib.itoa_length_le n h0 h1; simp only [maxLen]; omega) (fun w S h => amb_is0 h) (fun h0 h1 w ht => Tryd.strconv_Itoa n h0 h1 w ht)

end Go.Proofs.YtfaaceakmfokoaaDoor

set_option maxRecDepth 100000
set_option linter.unusedSimpArgs false
set_option linter.unusedVariables false
namespace Go.Proofs.YtfaaceakmfokoaaDoor
open Go Ab Pl
theorem pattern_Label (x : Iss) : ACalls E.P 14 [encIss x] (.d (.str (labelR x))) := by
  refine ACalls.intro E_ok Tryd.func14 rfl rfl Tryd.ntmps14 Tryd.results14 (Nat.le_of_ble_eq_true rfl) fun hok base S0 w0 => ?_
  have hv := Ok_i64 (Ok_agg (hok (encIss x) (by simp)) (.int .i64 x.vol) (by simp))
  have hn := Ok_i64 (Ok_agg (hok (encIss x) (by simp)) (.int .i64 x.num) (by simp))
  have hl := Ok_i64 (Ok_agg (hok (encIss x) (by simp)) (.int .i64 x.last) (by simp))
  have lv := Go.Lib.itoa_length_le x.vol hv.1 hv.2
  have ln := Go.Lib.itoa_length_le x.num hn.1 hn.2
  have ll := Go.Lib.itoa_length_le x.last hl.1 hl.2
  -- region 0
  refine AWp.rseq E_ok [0, 1, 2, 3, 15] fun K hK => ?_
  simp [encIss_eq]
  repeat refine ⟨by first | omega | assumption | (simp only [maxLen]; omega) | (intros; omega) | decide, ?_⟩
  refine hK _ ?_
  clear hK K
  -- region 1
  refine AWp.rseqQ E_ok mixed [0, 1, 2, 3, 15] (by kernel_rfl) fun K hK => ?_
  simp [encIss_eq]
  repeat refine ⟨by first | omega | assumption | (simp only [maxLen]; omega) | (intros; omega) | decide, ?_⟩
  refine meet.of (strconv_Itoa x.vol hv.1 hv.2) ?_
  simp [encIss_eq]
  repeat refine ⟨by first | omega | assumption | (simp only [maxLen]; omega) | (intros; omega) | decide, ?_⟩
  refine meet.of (strconv_Itoa x.num hn.1 hn.2) ?_
  simp [encIss_eq]
  repeat refine ⟨by first | omega | assumption | (simp only [maxLen]; omega) | (intros; omega) | decide, ?_⟩
  refine hK _ ?_
  clear hK K
  refine AWp.seq ?_
  -- region 2
  refine AWp.rseq E_ok [0, 1, 2, 3, 15] fun K hK => ?_
  simp [encIss_eq]
  repeat refine ⟨by first | omega | assumption | (simp only [maxLen]; omega) | (intros; omega) | decide, ?_⟩
  refine hK _ ?_
  clear hK K
  refine AWp.cond rfl (fun h15 => ?_) (fun h15 => ?_)
  · try simp at h15
    -- region 3
    refine AWp.rend E_ok [0, 1, 2, 3, 15] fun K hK => ?_
    simp [encIss_eq, h15]
    repeat refine ⟨by first | omega | assumption | (simp only [maxLen]; omega) | (intros; omega) | decide, ?_⟩
    refine meet.of (strconv_Itoa x.last hl.1 hl.2) ?_
    simp [encIss_eq, h15]
    repeat refine ⟨by first | omega | assumption | (simp only [maxLen]; omega) | (intros; omega) | decide, ?_⟩
    refine hK _ ?_
    clear hK K
    repeat first | refine thenN ?_ | refine thenX ?_ | refine thenR ?_ | refine blockN ?_ | refine blockR ?_ | refine blockX ?_ | refine blockM rfl ?_
    -- region 4
    refine AWp.rseq E_ok [0, 1, 2, 3, 15] fun K hK => ?_
    simp [encIss_eq, h15]
    repeat refine ⟨by first | omega | assumption | (simp only [maxLen]; omega) | (intros; omega) | decide, ?_⟩
    refine hK _ ?_
    clear hK K
    refine AWp.ret ?_
    repeat first | refine thenN ?_ | refine thenX ?_ | refine thenR ?_ | refine blockN ?_ | refine blockR ?_ | refine blockX ?_ | refine blockM rfl ?_
    simp [RetOk, RV, labelR, h15]
  · try simp at h15
    refine AWp.skip ?_
    repeat first | refine thenN ?_ | refine thenX ?_ | refine thenR ?_ | refine blockN ?_ | refine blockR ?_ | refine blockX ?_ | refine blockM rfl ?_
    -- region 4
    refine AWp.rseq E_ok [0, 1, 2, 3, 15] fun K hK => ?_
    simp [encIss_eq, h15]
    repeat refine ⟨by first | omega | assumption | (simp only [maxLen]; omega) | (intros; omega) | decide, ?_⟩
    refine hK _ ?_
    clear hK K
    refine AWp.ret ?_
    repeat first | refine thenN ?_ | refine thenX ?_ | refine thenR ?_ | refine blockN ?_ | refine blockR ?_ | refine blockX ?_ | refine blockM rfl ?_
    simp [RetOk, RV, labelR, h15]
end Go.Proofs.YtfaaceakmfokoaaDoor

set_option maxRecDepth 100000
set_option linter.unusedSimpArgs false
set_option linter.unusedVariables false
namespace Go.Proofs.YtfaaceakmfokoaaDoor
open Go Ab Pl
theorem law36_alive  : ACalls E.P 9 [] (.d (.bool true)) := by
  refine ACalls.intro E_ok Tryd.func9 rfl rfl Tryd.ntmps9 Tryd.results9 (Nat.le_of_ble_eq_true rfl) fun hok base S0 w0 => ?_
  -- region 0
  refine AWp.rseq E_ok [0, 1, 2, 3, 4, 5, 6, 7, 8, 55] fun K hK => ?_
  simp [encIss_eq, w_nth0, w_nth52, m_nth1, m_nth6, m_nth7, lab78]
  repeat refine ⟨by first | omega | assumption | (simp only [maxLen]; omega) | (intros; omega) | decide, ?_⟩
  refine hK _ ?_
  clear hK K
  -- region 1
  refine AWp.rseq E_ok [0, 1, 2, 3, 4, 5, 6, 7, 8, 55] fun K hK => ?_
  simp [encIss_eq, w_nth0, w_nth52, m_nth1, m_nth6, m_nth7, lab78]
  repeat refine ⟨by first | omega | assumption | (simp only [maxLen]; omega) | (intros; omega) | decide, ?_⟩
  refine hK _ ?_
  clear hK K
  -- region 2
  refine AWp.rseq E_ok [0, 1, 2, 3, 4, 5, 6, 7, 8, 55] fun K hK => ?_
  simp [encIss_eq, w_nth0, w_nth52, m_nth1, m_nth6, m_nth7, lab78]
  repeat refine ⟨by first | omega | assumption | (simp only [maxLen]; omega) | (intros; omega) | decide, ?_⟩
  refine meet.of (pattern_Nth wP 0 wP_ok) ?_
  simp [encIss_eq, w_nth0, w_nth52, m_nth1, m_nth6, m_nth7, lab78]
  repeat refine ⟨by first | omega | assumption | (simp only [maxLen]; omega) | (intros; omega) | decide, ?_⟩
  refine hK _ ?_
  clear hK K
  -- region 3
  refine AWp.rseq E_ok [0, 1, 2, 3, 4, 5, 6, 7, 8, 55] fun K hK => ?_
  simp [encIss_eq, w_nth0, w_nth52, m_nth1, m_nth6, m_nth7, lab78]
  repeat refine ⟨by first | omega | assumption | (simp only [maxLen]; omega) | (intros; omega) | decide, ?_⟩
  refine meet.of (pattern_Nth wP 52 wP_ok) ?_
  simp [encIss_eq, w_nth0, w_nth52, m_nth1, m_nth6, m_nth7, lab78]
  repeat refine ⟨by first | omega | assumption | (simp only [maxLen]; omega) | (intros; omega) | decide, ?_⟩
  refine hK _ ?_
  clear hK K
  refine AWp.seq ?_
  -- region 4
  refine AWp.rseq E_ok [0, 1, 2, 3, 4, 5, 6, 7, 8, 55] fun K hK => ?_
  simp [encIss_eq, w_nth0, w_nth52, m_nth1, m_nth6, m_nth7, lab78]
  repeat refine ⟨by first | omega | assumption | (simp only [maxLen]; omega) | (intros; omega) | decide, ?_⟩
  refine hK _ ?_
  clear hK K
  refine AWp.cond rfl (fun h55 => ?_) (fun h55 => ?_)
  · exact absurd h55 (by simp)
  · try simp at h55
    refine AWp.skip ?_
    repeat first | refine thenN ?_ | refine thenX ?_ | refine thenR ?_ | refine blockN ?_ | refine blockR ?_ | refine blockX ?_ | refine blockM rfl ?_
    -- region 6
    refine AWp.rseq E_ok [0, 1, 2, 3, 4, 5, 6, 7, 8, 55] fun K hK => ?_
    simp [encIss_eq, w_nth0, w_nth52, m_nth1, m_nth6, m_nth7, lab78, h55]
    repeat refine ⟨by first | omega | assumption | (simp only [maxLen]; omega) | (intros; omega) | decide, ?_⟩
    refine hK _ ?_
    clear hK K
    -- region 7
    refine AWp.rseq E_ok [0, 1, 2, 3, 4, 5, 6, 7, 8, 55] fun K hK => ?_
    simp [encIss_eq, w_nth0, w_nth52, m_nth1, m_nth6, m_nth7, lab78, h55]
    repeat refine ⟨by first | omega | assumption | (simp only [maxLen]; omega) | (intros; omega) | decide, ?_⟩
    refine meet.of (pattern_Nth mP 1 mP_ok) ?_
    simp [encIss_eq, w_nth0, w_nth52, m_nth1, m_nth6, m_nth7, lab78, h55]
    repeat refine ⟨by first | omega | assumption | (simp only [maxLen]; omega) | (intros; omega) | decide, ?_⟩
    refine hK _ ?_
    clear hK K
    -- region 8
    refine AWp.rseq E_ok [0, 1, 2, 3, 4, 5, 6, 7, 8, 55] fun K hK => ?_
    simp [encIss_eq, w_nth0, w_nth52, m_nth1, m_nth6, m_nth7, lab78, h55]
    repeat refine ⟨by first | omega | assumption | (simp only [maxLen]; omega) | (intros; omega) | decide, ?_⟩
    refine meet.of (pattern_Nth mP 6 mP_ok) ?_
    simp [encIss_eq, w_nth0, w_nth52, m_nth1, m_nth6, m_nth7, lab78, h55]
    repeat refine ⟨by first | omega | assumption | (simp only [maxLen]; omega) | (intros; omega) | decide, ?_⟩
    refine hK _ ?_
    clear hK K
    -- region 9
    refine AWp.rseq E_ok [0, 1, 2, 3, 4, 5, 6, 7, 8, 55] fun K hK => ?_
    simp [encIss_eq, w_nth0, w_nth52, m_nth1, m_nth6, m_nth7, lab78, h55]
    repeat refine ⟨by first | omega | assumption | (simp only [maxLen]; omega) | (intros; omega) | decide, ?_⟩
    refine meet.of (pattern_Nth mP 7 mP_ok) ?_
    simp [encIss_eq, w_nth0, w_nth52, m_nth1, m_nth6, m_nth7, lab78, h55]
    repeat refine ⟨by first | omega | assumption | (simp only [maxLen]; omega) | (intros; omega) | decide, ?_⟩
    refine hK _ ?_
    clear hK K
    -- region 10
    refine AWp.rseq E_ok [0, 1, 2, 3, 4, 5, 6, 7, 8, 55] fun K hK => ?_
    simp [encIss_eq, w_nth0, w_nth52, m_nth1, m_nth6, m_nth7, lab78, h55]
    repeat refine ⟨by first | omega | assumption | (simp only [maxLen]; omega) | (intros; omega) | decide, ?_⟩
    refine meet.of (pattern_Label ⟨1, 7, 8, 46597, 1, 0⟩) ?_
    simp [encIss_eq, w_nth0, w_nth52, m_nth1, m_nth6, m_nth7, lab78, h55]
    repeat refine ⟨by first | omega | assumption | (simp only [maxLen]; omega) | (intros; omega) | decide, ?_⟩
    refine hK _ ?_
    clear hK K
    refine AWp.ret ?_
    repeat first | refine thenN ?_ | refine thenX ?_ | refine thenR ?_ | refine blockN ?_ | refine blockR ?_ | refine blockX ?_ | refine blockM rfl ?_
    simp [RetOk, RV]
end Go.Proofs.YtfaaceakmfokoaaDoor

set_option maxRecDepth 100000
set_option linter.unusedSimpArgs false
set_option linter.unusedVariables false
namespace Go.Proofs.YtfaaceakmfokoaaDoor
open Go Ab Pl
theorem law36_short (p : Pat) : ACalls E.P 10 [encPat p] (.d (.bool (shortP p))) := by
  refine ACalls.intro E_ok Tryd.func10 rfl rfl Tryd.ntmps10 Tryd.results10 (Nat.le_of_ble_eq_true rfl) fun hok base S0 w0 => ?_
  -- region 0
  refine AWp.rseq E_ok [0, 1, 2] fun K hK => ?_
  simp [encPat_eq, encInts_eq]
  repeat refine ⟨by first | omega | assumption | (simp only [maxLen]; omega) | (intros; omega) | decide, ?_⟩
  refine hK _ ?_
  clear hK K
  -- region 1
  refine AWp.rseq E_ok [0, 1, 2] fun K hK => ?_
  simp [encPat_eq, encInts_eq]
  repeat refine ⟨by first | omega | assumption | (simp only [maxLen]; omega) | (intros; omega) | decide, ?_⟩
  refine hK _ ?_
  clear hK K
  refine AWp.ret ?_
  repeat first | refine thenN ?_ | refine thenX ?_ | refine thenR ?_ | refine blockN ?_ | refine blockR ?_ | refine blockX ?_ | refine blockM rfl ?_
  simp [RetOk, RV, shortP]; rw [show (decide ((p.skip.length : Int) ≤ 20)) = decide (p.skip.length ≤ 20) from decide_eq_decide.2 (by omega), show (decide ((p.dbl.length : Int) ≤ 20)) = decide (p.dbl.length ≤ 20) from decide_eq_decide.2 (by omega)]
end Go.Proofs.YtfaaceakmfokoaaDoor

set_option maxRecDepth 100000
set_option linter.unusedSimpArgs false
set_option linter.unusedVariables false
namespace Go.Proofs.YtfaaceakmfokoaaDoor
open Go Ab Pl
theorem pattern_months (l : List Int) : ACalls E.P 29 [encInts l] (.d (.int .i64 (monR l))) := by
  refine ACalls.intro E_ok Tryd.func29 rfl rfl Tryd.ntmps29 Tryd.results29 (Nat.le_of_ble_eq_true rfl) fun hok base S0 w0 => ?_
  have hl : l.length ≤ 9223372036854775807 := by have := (Ok_slice (hok (encInts l) (by simp))).1; simpa using this
  -- region 0
  refine AWp.rseq E_ok [0, 2, 4, 5, 6, 7, 8, 9, 17, 22, 34] fun K hK => ?_
  simp [encInts_eq]
  try simp (disch := omega) only [wrap_i64]
  repeat refine ⟨by first | omega | assumption | (simp only [maxLen]; omega) | (intros; omega) | decide, ?_⟩
  refine hK _ ?_
  clear hK K
  refine AWp.seq ?_
  -- region 1
  refine AWp.rseq E_ok [0, 2, 4, 5, 6, 7, 8, 9, 17, 22, 34] fun K hK => ?_
  simp [encInts_eq]
  try simp (disch := omega) only [wrap_i64]
  repeat refine ⟨by first | omega | assumption | (simp only [maxLen]; omega) | (intros; omega) | decide, ?_⟩
  refine hK _ ?_
  clear hK K
  refine AWp.block ?_
  refine AWp.range (l := l) (F := badMo) (tot := badMo () l) (fun k y => match y with | () => True) (fun k y => match y with | () => [(0, T.val ((D.int IntKind.i64 0).slice (List.map (D.int IntKind.i64) l))), (6, T.val ((D.int IntKind.i64 0).slice (List.map (D.int IntKind.i64) l))), (7, T.val (D.int IntKind.i64 ↑l.length)), (8, T.val (.int .i64 k))]) () ?_ rfl ?_ ?_
  · simp [Weak, TW, encInts_eq]
  · first | exact trivial | (simp; omega) | simp
  rintro k ⟨⟩ hk hs hi
  try simp only at hi
  -- region 2
  refine AWp.rseq E_ok [0, 2, 4, 5, 6, 7, 8, 9, 17, 22, 34] fun K hK => ?_
  simp [encInts_eq]
  try simp (disch := omega) only [wrap_i64]
  repeat refine ⟨by first | omega | assumption | (simp only [maxLen]; omega) | (intros; omega) | decide, ?_⟩
  refine hK _ ?_
  clear hK K
  refine AWp.seq ?_
  refine AWp.cond rfl (fun h9 => ?_) (fun h9 => ?_)
  · try simp at h9
    obtain ⟨x, hx, hxx, hd⟩ := at_indexG (l := l) h9
    rw [hd] at hs
    refine AWp.skip ?_
    repeat first | refine thenN ?_ | refine thenX ?_ | refine thenR ?_ | refine blockN ?_ | refine blockR ?_ | refine blockX ?_ | refine blockM rfl ?_
    refine AWp.seq ?_
    refine AWp.block ?_
    -- region 3
    refine AWp.rseq E_ok [0, 2, 4, 5, 6, 7, 8, 9, 17, 22, 34] fun K hK => ?_
    simp [encInts_eq, h9, hx, hxx]
    try simp (disch := omega) only [wrap_i64]
    repeat refine ⟨by first | omega | assumption | (simp only [maxLen]; omega) | (intros; omega) | decide, ?_⟩
    refine hK _ ?_
    clear hK K
    -- region 4
    refine AWp.rseq E_ok [0, 2, 4, 5, 6, 7, 8, 9, 17, 22, 34] fun K hK => ?_
    simp [encInts_eq, h9, hx, hxx]
    try simp (disch := omega) only [wrap_i64]
    repeat refine ⟨by first | omega | assumption | (simp only [maxLen]; omega) | (intros; omega) | decide, ?_⟩
    refine hK _ ?_
    clear hK K
    refine AWp.cond rfl (fun h17 => ?_) (fun h17 => ?_)
    · try simp at h17
      have hb := mon_bad (l := l) (by rw [← hs]; exact if_pos (by omega))
      rw [badMo, if_pos (by omega)] at hs
      -- region 5
      refine AWp.rseq E_ok [0, 2, 4, 5, 6, 7, 8, 9, 17, 22, 34] fun K hK => ?_
      simp [encInts_eq, h9, hx, hxx]
      try simp (disch := omega) only [wrap_i64]
      repeat refine ⟨by first | omega | assumption | (simp only [maxLen]; omega) | (intros; omega) | decide, ?_⟩
      refine hK _ ?_
      clear hK K
      refine AWp.ret ?_
      repeat first | refine thenN ?_ | refine thenX ?_ | refine thenR ?_ | refine blockN ?_ | refine blockR ?_ | refine blockX ?_ | refine blockM rfl ?_
      simp [RetOk, RV, hb]
    · try simp at h17
      rw [badMo, if_neg (by omega)] at hs
      refine AWp.skip ?_
      repeat first | refine thenN ?_ | refine thenX ?_ | refine thenR ?_ | refine blockN ?_ | refine blockR ?_ | refine blockX ?_ | refine blockM rfl ?_
      -- region 6
      refine AWp.rend E_ok [0, 2, 4, 5, 6, 7, 8, 9, 17, 22, 34] fun K hK => ?_
      simp [encInts_eq, h9, hx, hxx]
      try simp (disch := omega) only [wrap_i64]
      repeat refine ⟨by first | omega | assumption | (simp only [maxLen]; omega) | (intros; omega) | decide, ?_⟩
      refine hK _ ?_
      clear hK K
      repeat first | refine thenN ?_ | refine thenX ?_ | refine thenR ?_ | refine blockN ?_ | refine blockR ?_ | refine blockX ?_ | refine blockM rfl ?_
      have hw : IntKind.i64.wrap ((k : Int) + 1) = (k : Int) + 1 := by rw [wrap_i64] <;> omega
      skip
      refine ⟨_, h9, hs, ?_, ?_⟩
      · first | exact trivial | (simp; omega) | simp
      · simp [Weak, TW, hw, encInts_eq]
  · try simp at h9
    obtain rfl : k = l.length := by omega
    simp [badMo] at hs
    refine AWp.exit ?_
    repeat first | refine thenN ?_ | refine thenX ?_ | refine thenR ?_ | refine blockN ?_ | refine blockR ?_ | refine blockX ?_ | refine blockM rfl ?_
    refine AWp.seq ?_
    -- region 7
    refine AWp.rseq E_ok [0, 2, 4, 5, 6, 7, 8, 9, 17, 22, 34] fun K hK => ?_
    simp [encInts_eq, h9]
    try simp (disch := omega) only [wrap_i64]
    repeat refine ⟨by first | omega | assumption | (simp only [maxLen]; omega) | (intros; omega) | decide, ?_⟩
    refine hK _ ?_
    clear hK K
    refine AWp.block ?_
    refine AWp.loop (ι := { i : Nat // 1 ≤ i ∧ (i ≤ l.length ∨ i = 1) ∧ twMo (l.drop (i - 1)) = twMo l }) (fun x => match x with | ⟨i, hi, hi2, htw⟩ => [(0, T.val ((D.int IntKind.i64 0).slice (List.map (D.int IntKind.i64) l))), (5, T.val (.int .i64 i))]) (fun x => match x with | ⟨i, hi, hi2, htw⟩ => l.length + 1 - i) ⟨1, by omega, by omega, rfl⟩ ?_ ?_
    · simp [Weak, TW, encInts_eq]
    rintro ⟨i, hi, hi2, htw⟩
    simp only
    try simp only at hi
    try simp only at hi2
    try simp only at htw
    refine AWp.seq ?_
    -- region 8
    refine AWp.rseq E_ok [0, 2, 4, 5, 6, 7, 8, 9, 17, 22, 34] fun K hK => ?_
    simp [encInts_eq, h9]
    try simp (disch := omega) only [wrap_i64]
    repeat refine ⟨by first | omega | assumption | (simp only [maxLen]; omega) | (intros; omega) | decide, ?_⟩
    refine hK _ ?_
    clear hK K
    refine AWp.cond rfl (fun h22 => ?_) (fun h22 => ?_)
    · try simp at h22
      obtain ⟨j, rfl⟩ : ∃ j, i = j + 1 := ⟨i - 1, by omega⟩
      obtain ⟨x, hx1, hx2, _⟩ := at_indexG (l := l) (k := j + 1) (by omega)
      obtain ⟨y, hy1, hy2, _⟩ := at_indexG (l := l) (k := j) (by omega)
      have hst := tw_step hy1 hx1
      have hj0 : IntKind.i64.wrap ((j : Int) + 1 - 1) = (j : Int) := by rw [wrap_i64] <;> omega
      have hj1 : j < l.length := by omega
      refine AWp.skip ?_
      repeat first | refine thenN ?_ | refine thenX ?_ | refine thenR ?_ | refine blockN ?_ | refine blockR ?_ | refine blockX ?_ | refine blockM rfl ?_
      refine AWp.seq ?_
      refine AWp.block ?_
      -- region 10
      refine AWp.rseqQ E_ok mixed [0, 2, 4, 5, 6, 7, 8, 9, 17, 22, 34] (by kernel_rfl) fun K hK => ?_
      simp [encInts_eq, h9, h22, hx1, hx2, hy1, hy2, hj0, hj1]
      try simp (disch := omega) only [wrap_i64]
      repeat refine ⟨by first | omega | assumption | (simp only [maxLen]; omega) | (intros; omega) | decide, ?_⟩
      refine hK _ ?_
      clear hK K
      refine AWp.cond rfl (fun h34 => ?_) (fun h34 => ?_)
      · try simp at h34
        simp only [hy1, Option.getD_some] at h34
        have hb := mon_tw hs (htw ▸ (by rw [show j + 1 - 1 = j by omega, hst, if_pos (by omega)]))
        -- region 11
        refine AWp.rseq E_ok [0, 2, 4, 5, 6, 7, 8, 9, 17, 22, 34] fun K hK => ?_
        simp [encInts_eq, h9, h22, hx1, hx2, hy1, hy2, hj0, hj1]
        try simp (disch := omega) only [wrap_i64]
        repeat refine ⟨by first | omega | assumption | (simp only [maxLen]; omega) | (intros; omega) | decide, ?_⟩
        refine hK _ ?_
        clear hK K
        refine AWp.ret ?_
        repeat first | refine thenN ?_ | refine thenX ?_ | refine thenR ?_ | refine blockN ?_ | refine blockR ?_ | refine blockX ?_ | refine blockM rfl ?_
        simp [RetOk, RV, hb]
      · try simp at h34
        simp only [hy1, Option.getD_some] at h34
        rw [show j + 1 - 1 = j by omega, hst, if_neg (by omega)] at htw
        refine AWp.skip ?_
        repeat first | refine thenN ?_ | refine thenX ?_ | refine thenR ?_ | refine blockN ?_ | refine blockR ?_ | refine blockX ?_ | refine blockM rfl ?_
        -- region 9
        refine AWp.rend E_ok [0, 2, 4, 5, 6, 7, 8, 9, 17, 22, 34] fun K hK => ?_
        simp [encInts_eq, h9, h22, hx1, hx2, hy1, hy2, hj0, hj1]
        try simp (disch := omega) only [wrap_i64]
        repeat refine ⟨by first | omega | assumption | (simp only [maxLen]; omega) | (intros; omega) | decide, ?_⟩
        refine hK _ ?_
        clear hK K
        repeat first | refine thenN ?_ | refine thenX ?_ | refine thenR ?_ | refine blockN ?_ | refine blockR ?_ | refine blockX ?_ | refine blockM rfl ?_
        refine ⟨⟨j + 1 + 1, by omega, by omega, by rw [← htw]; rfl⟩, ?_, by simp only; omega⟩
        simp [Weak, TW]
    · try simp at h22
      have hb := mon_ok hs (htw ▸ tw_end (l := l) (i := i) (by omega))
      refine AWp.exit ?_
      repeat first | refine thenN ?_ | refine thenX ?_ | refine thenR ?_ | refine blockN ?_ | refine blockR ?_ | refine blockX ?_ | refine blockM rfl ?_
      -- region 12
      refine AWp.rseq E_ok [0, 2, 4, 5, 6, 7, 8, 9, 17, 22, 34] fun K hK => ?_
      simp [encInts_eq, h9, h22]
      try simp (disch := omega) only [wrap_i64]
      repeat refine ⟨by first | omega | assumption | (simp only [maxLen]; omega) | (intros; omega) | decide, ?_⟩
      refine hK _ ?_
      clear hK K
      refine AWp.ret ?_
      repeat first | refine thenN ?_ | refine thenX ?_ | refine thenR ?_ | refine blockN ?_ | refine blockR ?_ | refine blockX ?_ | refine blockM rfl ?_
      simp [RetOk, RV, hb]
end Go.Proofs.YtfaaceakmfokoaaDoor

set_option maxRecDepth 100000
set_option linter.unusedSimpArgs false
set_option linter.unusedVariables false
namespace Go.Proofs.YtfaaceakmfokoaaDoor
open Go Ab Pl
theorem slices_IndexFunc_int_int (l : List Int) (f : Nat) (caps : List D) (p : Int → Bool) (hp : ∀ n, ACalls E.P f (.int .i64 n :: caps) (.d (.bool (p n)))) : ACalls E.P 40 [encInts l, .fn f caps] (.d (.int .i64 (idxF p 0 l))) := by
  refine ACalls.intro E_ok Tryd.func40 rfl rfl Tryd.ntmps40 Tryd.results40 (Nat.le_of_ble_eq_true rfl) fun hok base S0 w0 => ?_
  have hl : l.length ≤ 9223372036854775807 := by have := (Ok_slice (hok (encInts l) (by simp))).1; simpa using this
  -- region 0
  refine AWp.rseq E_ok [0, 1, 4, 5, 7, 8, 9, 16] fun K hK => ?_
  simp [encInts_eq]
  repeat refine ⟨by first | omega | assumption | (simp only [maxLen]; omega) | (intros; omega) | decide, ?_⟩
  refine hK _ ?_
  clear hK K
  refine AWp.seq ?_
  -- region 1
  refine AWp.rseq E_ok [0, 1, 4, 5, 7, 8, 9, 16] fun K hK => ?_
  simp [encInts_eq]
  repeat refine ⟨by first | omega | assumption | (simp only [maxLen]; omega) | (intros; omega) | decide, ?_⟩
  refine hK _ ?_
  clear hK K
  refine AWp.block ?_
  refine AWp.range (l := l) (F := idxF p) (tot := idxF p 0 l) (fun k y => match y with | i => i = (k : Int)) (fun k y => match y with | i => [(0, T.val (encInts l)), (1, T.val (.fn f caps)), (7, T.val (.int .i64 l.length)), (8, T.val (.int .i64 k))]) (0) ?_ rfl ?_ ?_
  · simp [Weak, TW, encInts_eq]
  · first | exact trivial | (simp; omega) | simp
  rintro k i hk hs hi
  try simp only at hi
  -- region 2
  refine AWp.rseq E_ok [0, 1, 4, 5, 7, 8, 9, 16] fun K hK => ?_
  simp [encInts_eq]
  repeat refine ⟨by first | omega | assumption | (simp only [maxLen]; omega) | (intros; omega) | decide, ?_⟩
  refine hK _ ?_
  clear hK K
  refine AWp.seq ?_
  refine AWp.cond rfl (fun h9 => ?_) (fun h9 => ?_)
  · try simp at h9
    obtain ⟨x, hx, hxx, hd⟩ := at_indexG (l := l) h9
    rw [hd] at hs
    refine AWp.skip ?_
    repeat first | refine thenN ?_ | refine thenX ?_ | refine thenR ?_ | refine blockN ?_ | refine blockR ?_ | refine blockX ?_ | refine blockM rfl ?_
    refine AWp.seq ?_
    refine AWp.block ?_
    -- region 3
    refine AWp.rseq E_ok [0, 1, 4, 5, 7, 8, 9, 16] fun K hK => ?_
    simp [encInts_eq, h9, hx, hxx]
    repeat refine ⟨by first | omega | assumption | (simp only [maxLen]; omega) | (intros; omega) | decide, ?_⟩
    refine hK _ ?_
    clear hK K
    -- region 4
    refine AWp.rseq E_ok [0, 1, 4, 5, 7, 8, 9, 16] fun K hK => ?_
    simp [encInts_eq, h9, hx, hxx]
    repeat refine ⟨by first | omega | assumption | (simp only [maxLen]; omega) | (intros; omega) | decide, ?_⟩
    refine meet.of (hp x) ?_
    simp [encInts_eq, h9, hx, hxx]
    repeat refine ⟨by first | omega | assumption | (simp only [maxLen]; omega) | (intros; omega) | decide, ?_⟩
    refine hK _ ?_
    clear hK K
    refine AWp.cond rfl (fun h16 => ?_) (fun h16 => ?_)
    · try simp at h16
      -- region 5
      refine AWp.rseq E_ok [0, 1, 4, 5, 7, 8, 9, 16] fun K hK => ?_
      simp [encInts_eq, h9, hx, hxx, h16]
      repeat refine ⟨by first | omega | assumption | (simp only [maxLen]; omega) | (intros; omega) | decide, ?_⟩
      refine hK _ ?_
      clear hK K
      refine AWp.ret ?_
      repeat first | refine thenN ?_ | refine thenX ?_ | refine thenR ?_ | refine blockN ?_ | refine blockR ?_ | refine blockX ?_ | refine blockM rfl ?_
      simp [idxF, h16] at hs
      first | (simp [RetOk, RV, ← hs]; done) | (simp [RetOk, RV, ← hs, hi])
    · try simp at h16
      refine AWp.skip ?_
      repeat first | refine thenN ?_ | refine thenX ?_ | refine thenR ?_ | refine blockN ?_ | refine blockR ?_ | refine blockX ?_ | refine blockM rfl ?_
      -- region 6
      refine AWp.rend E_ok [0, 1, 4, 5, 7, 8, 9, 16] fun K hK => ?_
      simp [encInts_eq, h9, hx, hxx, h16]
      repeat refine ⟨by first | omega | assumption | (simp only [maxLen]; omega) | (intros; omega) | decide, ?_⟩
      refine hK _ ?_
      clear hK K
      repeat first | refine thenN ?_ | refine thenX ?_ | refine thenR ?_ | refine blockN ?_ | refine blockR ?_ | refine blockX ?_ | refine blockM rfl ?_
      have hw : IntKind.i64.wrap ((k : Int) + 1) = (k : Int) + 1 := by rw [wrap_i64] <;> omega
      simp [idxF, h16] at hs
      refine ⟨_, h9, hs, ?_, ?_⟩
      · first | exact trivial | (simp; omega) | simp
      · simp [Weak, TW, hw, encInts_eq]
  · try simp at h9
    obtain rfl : k = l.length := by omega
    simp [idxF] at hs
    refine AWp.exit ?_
    repeat first | refine thenN ?_ | refine thenX ?_ | refine thenR ?_ | refine blockN ?_ | refine blockR ?_ | refine blockX ?_ | refine blockM rfl ?_
    -- region 7
    refine AWp.rseq E_ok [0, 1, 4, 5, 7, 8, 9, 16] fun K hK => ?_
    simp [encInts_eq, h9]
    repeat refine ⟨by first | omega | assumption | (simp only [maxLen]; omega) | (intros; omega) | decide, ?_⟩
    refine hK _ ?_
    clear hK K
    refine AWp.ret ?_
    repeat first | refine thenN ?_ | refine thenX ?_ | refine thenR ?_ | refine blockN ?_ | refine blockR ?_ | refine blockX ?_ | refine blockM rfl ?_
    first | (simp [RetOk, RV, ← hs]; done) | (simp [RetOk, RV, ← hs, hi])
end Go.Proofs.YtfaaceakmfokoaaDoor

set_option maxRecDepth 100000
set_option linter.unusedSimpArgs false
set_option linter.unusedVariables false
namespace Go.Proofs.YtfaaceakmfokoaaDoor
open Go Ab Pl
theorem slices_ContainsFunc_int_int (l : List Int) (f : Nat) (caps : List D) (p : Int → Bool) (hp : ∀ n, ACalls E.P f (.int .i64 n :: caps) (.d (.bool (p n)))) : ACalls E.P 30 [encInts l, .fn f caps] (.d (.bool (l.any p))) := by
  refine ACalls.intro E_ok Tryd.func30 rfl rfl Tryd.ntmps30 Tryd.results30 (Nat.le_of_ble_eq_true rfl) fun hok base S0 w0 => ?_
  -- region 0
  refine AWp.rseq E_ok [0, 1, 4] fun K hK => ?_
  simp [encInts_eq]
  repeat refine ⟨by first | omega | assumption | (simp only [maxLen]; omega) | (intros; omega) | decide, ?_⟩
  refine hK _ ?_
  clear hK K
  -- region 1
  refine AWp.rseq E_ok [0, 1, 4] fun K hK => ?_
  simp [encInts_eq]
  repeat refine ⟨by first | omega | assumption | (simp only [maxLen]; omega) | (intros; omega) | decide, ?_⟩
  refine meet.of (slices_IndexFunc_int_int _ _ _ _ hp) ?_
  simp [encInts_eq]
  repeat refine ⟨by first | omega | assumption | (simp only [maxLen]; omega) | (intros; omega) | decide, ?_⟩
  refine hK _ ?_
  clear hK K
  refine AWp.ret ?_
  repeat first | refine thenN ?_ | refine thenX ?_ | refine thenR ?_ | refine blockN ?_ | refine blockR ?_ | refine blockX ?_ | refine blockM rfl ?_
  simp [RetOk, RV, idxF_any]
end Go.Proofs.YtfaaceakmfokoaaDoor

set_option maxRecDepth 100000
set_option linter.unusedSimpArgs false
set_option linter.unusedVariables false
namespace Go.Proofs.YtfaaceakmfokoaaDoor
open Go Ab Pl
theorem pattern_Right_1 (m : Int) (p : Pat) : ACalls E.P 31 [.int .i64 m, .ref (encPat p).cells] (.d (.bool (p.skip.contains m))) := by
  refine ACalls.intro E_ok Tryd.func31 rfl rfl Tryd.ntmps31 Tryd.results31 (Nat.le_of_ble_eq_true rfl) fun hok base S0 w0 => ?_
  -- region 0
  refine AWp.rseq E_ok [0, 1, 3] fun K hK => ?_
  simp [encPat_eq]
  repeat refine ⟨by first | omega | assumption | (simp only [maxLen]; omega) | (intros; omega) | decide, ?_⟩
  refine hK _ ?_
  clear hK K
  -- region 1
  refine AWp.rseq E_ok [0, 1, 3] fun K hK => ?_
  simp [encPat_eq]
  repeat refine ⟨by first | omega | assumption | (simp only [maxLen]; omega) | (intros; omega) | decide, ?_⟩
  refine meet.of (slices_Contains_int_int p.skip m) ?_
  simp [encPat_eq]
  repeat refine ⟨by first | omega | assumption | (simp only [maxLen]; omega) | (intros; omega) | decide, ?_⟩
  refine hK _ ?_
  clear hK K
  refine AWp.ret ?_
  repeat first | refine thenN ?_ | refine thenX ?_ | refine thenR ?_ | refine blockN ?_ | refine blockR ?_ | refine blockX ?_ | refine blockM rfl ?_
  simp [RetOk, RV]
end Go.Proofs.YtfaaceakmfokoaaDoor

set_option maxRecDepth 100000
set_option linter.unusedSimpArgs false
set_option linter.unusedVariables false
namespace Go.Proofs.YtfaaceakmfokoaaDoor
open Go Ab Pl
theorem pattern_Right (p : Pat) : ACalls E.P 21 [encPat p] (.d (.int .i64 (patR p))) := by
  refine ACalls.intro E_ok Tryd.func21 rfl rfl Tryd.ntmps21 Tryd.results21 (Nat.le_of_ble_eq_true rfl) fun hok base S0 w0 => ?_
  -- region 0
  refine AWp.rseq E_ok [0, 1, 2, 3, 4, 32, 40, 45, 51, 78, 82] fun K hK => ?_
  simp [encPat_eq, encInts_eq]
  repeat refine ⟨by first | omega | assumption | (simp only [maxLen]; omega) | (intros; omega) | decide, ?_⟩
  refine hK _ ?_
  clear hK K
  refine AWp.seq ?_
  -- region 1
  refine AWp.rseq E_ok [0, 1, 2, 3, 4, 32, 40, 45, 51, 78, 82] fun K hK => ?_
  simp [encPat_eq, encInts_eq]
  repeat refine ⟨by first | omega | assumption | (simp only [maxLen]; omega) | (intros; omega) | decide, ?_⟩
  refine hK _ ?_
  clear hK K
  refine AWp.cond rfl (fun h32 => ?_) (fun h32 => ?_)
  · try simp at h32
    have hb : patR p = 2 := if_pos (by omega)
    -- region 2
    refine AWp.rseq E_ok [0, 1, 2, 3, 4, 32, 40, 45, 51, 78, 82] fun K hK => ?_
    simp [encPat_eq, encInts_eq]
    repeat refine ⟨by first | omega | assumption | (simp only [maxLen]; omega) | (intros; omega) | decide, ?_⟩
    refine hK _ ?_
    clear hK K
    refine AWp.ret ?_
    repeat first | refine thenN ?_ | refine thenX ?_ | refine thenR ?_ | refine blockN ?_ | refine blockR ?_ | refine blockX ?_ | refine blockM rfl ?_
    simp [RetOk, RV, hb]
  · try simp at h32
    refine AWp.skip ?_
    repeat first | refine thenN ?_ | refine thenX ?_ | refine thenR ?_ | refine blockN ?_ | refine blockR ?_ | refine blockX ?_ | refine blockM rfl ?_
    refine AWp.seq ?_
    -- region 3
    refine AWp.rseq E_ok [0, 1, 2, 3, 4, 32, 40, 45, 51, 78, 82] fun K hK => ?_
    simp [encPat_eq, encInts_eq]
    repeat refine ⟨by first | omega | assumption | (simp only [maxLen]; omega) | (intros; omega) | decide, ?_⟩
    refine hK _ ?_
    clear hK K
    refine AWp.cond rfl (fun h40 => ?_) (fun h40 => ?_)
    · try simp at h40
      have hb : patR p = 1 := by unfold patR; rw [if_neg (by omega), if_pos (by omega)]
      -- region 4
      refine AWp.rseq E_ok [0, 1, 2, 3, 4, 32, 40, 45, 51, 78, 82] fun K hK => ?_
      simp [encPat_eq, encInts_eq]
      repeat refine ⟨by first | omega | assumption | (simp only [maxLen]; omega) | (intros; omega) | decide, ?_⟩
      refine hK _ ?_
      clear hK K
      refine AWp.ret ?_
      repeat first | refine thenN ?_ | refine thenX ?_ | refine thenR ?_ | refine blockN ?_ | refine blockR ?_ | refine blockX ?_ | refine blockM rfl ?_
      simp [RetOk, RV, hb]
    · try simp at h40
      refine AWp.skip ?_
      repeat first | refine thenN ?_ | refine thenX ?_ | refine thenR ?_ | refine blockN ?_ | refine blockR ?_ | refine blockX ?_ | refine blockM rfl ?_
      refine AWp.seq ?_
      -- region 5
      refine AWp.rseq E_ok [0, 1, 2, 3, 4, 32, 40, 45, 51, 78, 82] fun K hK => ?_
      simp [encPat_eq, encInts_eq]
      repeat refine ⟨by first | omega | assumption | (simp only [maxLen]; omega) | (intros; omega) | decide, ?_⟩
      refine meet.of (pattern_months p.skip) ?_
      simp [encPat_eq, encInts_eq]
      repeat refine ⟨by first | omega | assumption | (simp only [maxLen]; omega) | (intros; omega) | decide, ?_⟩
      refine hK _ ?_
      clear hK K
      -- region 6
      refine AWp.rseq E_ok [0, 1, 2, 3, 4, 32, 40, 45, 51, 78, 82] fun K hK => ?_
      simp [encPat_eq, encInts_eq]
      repeat refine ⟨by first | omega | assumption | (simp only [maxLen]; omega) | (intros; omega) | decide, ?_⟩
      refine hK _ ?_
      clear hK K
      refine AWp.cond rfl (fun h45 => ?_) (fun h45 => ?_)
      · try simp at h45
        have hb : patR p = monR p.skip := by unfold patR; rw [if_neg (by omega), if_neg (by omega), if_pos h45]
        -- region 7
        refine AWp.rseq E_ok [0, 1, 2, 3, 4, 32, 40, 45, 51, 78, 82] fun K hK => ?_
        simp [encPat_eq, encInts_eq]
        repeat refine ⟨by first | omega | assumption | (simp only [maxLen]; omega) | (intros; omega) | decide, ?_⟩
        refine hK _ ?_
        clear hK K
        refine AWp.ret ?_
        repeat first | refine thenN ?_ | refine thenX ?_ | refine thenR ?_ | refine blockN ?_ | refine blockR ?_ | refine blockX ?_ | refine blockM rfl ?_
        simp [RetOk, RV, hb]
      · try simp at h45
        refine AWp.skip ?_
        repeat first | refine thenN ?_ | refine thenX ?_ | refine thenR ?_ | refine blockN ?_ | refine blockR ?_ | refine blockX ?_ | refine blockM rfl ?_
        refine AWp.seq ?_
        -- region 8
        refine AWp.rseq E_ok [0, 1, 2, 3, 4, 32, 40, 45, 51, 78, 82] fun K hK => ?_
        simp [encPat_eq, encInts_eq]
        repeat refine ⟨by first | omega | assumption | (simp only [maxLen]; omega) | (intros; omega) | decide, ?_⟩
        refine meet.of (pattern_months p.dbl) ?_
        simp [encPat_eq, encInts_eq]
        repeat refine ⟨by first | omega | assumption | (simp only [maxLen]; omega) | (intros; omega) | decide, ?_⟩
        refine hK _ ?_
        clear hK K
        -- region 9
        refine AWp.rseq E_ok [0, 1, 2, 3, 4, 32, 40, 45, 51, 78, 82] fun K hK => ?_
        simp [encPat_eq, encInts_eq]
        repeat refine ⟨by first | omega | assumption | (simp only [maxLen]; omega) | (intros; omega) | decide, ?_⟩
        refine hK _ ?_
        clear hK K
        refine AWp.cond rfl (fun h51 => ?_) (fun h51 => ?_)
        · try simp at h51
          have hb : patR p = monR p.dbl := by unfold patR; rw [if_neg (by omega), if_neg (by omega), if_neg (by omega), if_pos h51]
          -- region 10
          refine AWp.rseq E_ok [0, 1, 2, 3, 4, 32, 40, 45, 51, 78, 82] fun K hK => ?_
          simp [encPat_eq, encInts_eq]
          repeat refine ⟨by first | omega | assumption | (simp only [maxLen]; omega) | (intros; omega) | decide, ?_⟩
          refine hK _ ?_
          clear hK K
          refine AWp.ret ?_
          repeat first | refine thenN ?_ | refine thenX ?_ | refine thenR ?_ | refine blockN ?_ | refine blockR ?_ | refine blockX ?_ | refine blockM rfl ?_
          simp [RetOk, RV, hb]
        · try simp at h51
          refine AWp.skip ?_
          repeat first | refine thenN ?_ | refine thenX ?_ | refine thenR ?_ | refine blockN ?_ | refine blockR ?_ | refine blockX ?_ | refine blockM rfl ?_
          refine AWp.seq ?_
          -- region 11
          refine AWp.rseq E_ok [0, 1, 2, 3, 4, 32, 40, 45, 51, 78, 82] fun K hK => ?_
          simp [encPat_eq, encInts_eq]
          repeat refine ⟨by first | omega | assumption | (simp only [maxLen]; omega) | (intros; omega) | decide, ?_⟩
          refine hK _ ?_
          clear hK K
          refine AWp.cond rfl (fun h78 => ?_) (fun h78 => ?_)
          · try simp at h78
            have hb : patR p = 1 := by unfold patR; rw [if_neg (by omega), if_neg (by omega), if_neg (by omega), if_neg (by omega), if_pos (by omega)]
            -- region 12
            refine AWp.rseq E_ok [0, 1, 2, 3, 4, 32, 40, 45, 51, 78, 82] fun K hK => ?_
            simp [encPat_eq, encInts_eq]
            repeat refine ⟨by first | omega | assumption | (simp only [maxLen]; omega) | (intros; omega) | decide, ?_⟩
            refine hK _ ?_
            clear hK K
            refine AWp.ret ?_
            repeat first | refine thenN ?_ | refine thenX ?_ | refine thenR ?_ | refine blockN ?_ | refine blockR ?_ | refine blockX ?_ | refine blockM rfl ?_
            simp [RetOk, RV, hb]
          · try simp at h78
            refine AWp.skip ?_
            repeat first | refine thenN ?_ | refine thenX ?_ | refine thenR ?_ | refine blockN ?_ | refine blockR ?_ | refine blockX ?_ | refine blockM rfl ?_
            refine AWp.seq ?_
            -- region 13
            refine AWp.rseq E_ok [0, 1, 2, 3, 4, 32, 40, 45, 51, 78, 82] fun K hK => ?_
            simp [encPat_eq, encInts_eq]
            repeat refine ⟨by first | omega | assumption | (simp only [maxLen]; omega) | (intros; omega) | decide, ?_⟩
            refine meet.of (slices_ContainsFunc_int_int p.dbl _ _ (fun m => p.skip.contains m) (fun m => pattern_Right_1 m p)) ?_
            simp [encPat_eq, encInts_eq]
            repeat refine ⟨by first | omega | assumption | (simp only [maxLen]; omega) | (intros; omega) | decide, ?_⟩
            refine hK _ ?_
            clear hK K
            refine AWp.cond rfl (fun h82 => ?_) (fun h82 => ?_)
            · try simp at h82
              have hb : patR p = 1 := by unfold patR; rw [if_neg (by omega), if_neg (by omega), if_neg (by omega), if_neg (by omega), if_neg (by omega), if_pos (by simpa using h82)]
              -- region 14
              refine AWp.rseq E_ok [0, 1, 2, 3, 4, 32, 40, 45, 51, 78, 82] fun K hK => ?_
              simp [encPat_eq, encInts_eq]
              repeat refine ⟨by first | omega | assumption | (simp only [maxLen]; omega) | (intros; omega) | decide, ?_⟩
              refine hK _ ?_
              clear hK K
              refine AWp.ret ?_
              repeat first | refine thenN ?_ | refine thenX ?_ | refine thenR ?_ | refine blockN ?_ | refine blockR ?_ | refine blockX ?_ | refine blockM rfl ?_
              simp [RetOk, RV, hb]
            · try simp at h82
              have hb : patR p = 0 := by unfold patR; rw [if_neg (by omega), if_neg (by omega), if_neg (by omega), if_neg (by omega), if_neg (by omega), if_neg (by simpa using h82)]
              refine AWp.skip ?_
              repeat first | refine thenN ?_ | refine thenX ?_ | refine thenR ?_ | refine blockN ?_ | refine blockR ?_ | refine blockX ?_ | refine blockM rfl ?_
              -- region 15
              refine AWp.rseq E_ok [0, 1, 2, 3, 4, 32, 40, 45, 51, 78, 82] fun K hK => ?_
              simp [encPat_eq, encInts_eq]
              repeat refine ⟨by first | omega | assumption | (simp only [maxLen]; omega) | (intros; omega) | decide, ?_⟩
              refine hK _ ?_
              clear hK K
              refine AWp.ret ?_
              repeat first | refine thenN ?_ | refine thenX ?_ | refine thenR ?_ | refine blockN ?_ | refine blockR ?_ | refine blockX ?_ | refine blockM rfl ?_
              simp [RetOk, RV, hb]
end Go.Proofs.YtfaaceakmfokoaaDoor

set_option maxRecDepth 100000
set_option linter.unusedSimpArgs false
set_option linter.unusedVariables false
namespace Go.Proofs.YtfaaceakmfokoaaDoor
open Go Ab Pl
open Go.RowKit Go.Shelf
attribute [local go_sem] Oper.semAt_some
theorem info30 : (Tryd.prog.info? 30).map (fun i => (i.zero, i.size, i.bytes)) = some (some (.agg #[.int .i64 0, .int .i64 0, .int .i64 0, .int .i64 0, .int .i64 0, .int .i64 0]), 6, 48) := by kernel_rfl
def flatI (l : List Iss) : List Value := l.flatMap fun x => (issV x).toList
theorem flatI_snoc (l : List Iss) (x : Iss) : flatI (l ++ [x]) = flatI l ++ (issV x).toList := by simp [flatI]
theorem own_heap {W W' : World} {b e sz n : Nat} {v : Value} {xs : List Value} (h : W.ownsRow b e sz v n xs) (hh : ∀ g, b ≤ g → g < W.heap.size → W'.heap[g]? = W.heap[g]?) : W'.ownsRow b e sz v n xs := by
  obtain ⟨h0, h1 | ⟨g, cap, cur, e1, e2, e3, e4⟩⟩ := h
  · exact ⟨h0, .inl h1⟩
  · exact ⟨h0, .inr ⟨g, cap, cur, e1, e2, (hh g e2 (Array.getElem?_eq_some_iff.1 e3).1).trans e3, e4⟩⟩
theorem own_base {W : World} {b b' e sz n : Nat} {v : Value} {xs : List Value} (h : W.ownsRow b e sz v n xs) (hb : b' ≤ b) : W.ownsRow b' e sz v n xs := by
  obtain ⟨h0, h1 | ⟨g, cap, cur, e1, e2, e3, e4⟩⟩ := h
  · exact ⟨h0, .inl h1⟩
  · exact ⟨h0, .inr ⟨g, cap, cur, e1, Nat.le_trans hb e2, e3, e4⟩⟩
theorem own_block {W : World} {b e sz n : Nat} {v : Value} {xs : List Value} (h : W.ownsRow b e sz v n xs) : ∀ g, v.ownBlock = some g → b ≤ g := by
  intro g hg
  obtain ⟨h0, ⟨rfl, _⟩ | ⟨g', cap, cur, rfl, e2, e3, e4⟩⟩ := h
  · cases hg
  · cases hg; exact e2
theorem cell_of {W : World} {b j : Nat} {arr : Array Value} {t : TypeId} {u : Value} (h : W.heap[b]? = some (.cells arr t)) (hj : arr[j]? = some u) : W.cell? ⟨b, j, none⟩ = some u := by
  simp [World.cell?, h, hj]
theorem cells_new (W : World) (x : Iss) (t : TypeId) : ∀ j u, (issV x).toList[j]? = some u → (W.alloc (.cells (issV x) t)).cell? ((⟨W.heap.size, 0, none⟩ : Addr).add j) = some u := fun j u h => by
  have hj : (issV x)[j]? = some u := by rw [← Array.getElem?_toList]; exact h
  have := cell_of (World.alloc_heap_new W (.cells (issV x) t)) hj
  by_cases h0 : j = 0
  · subst h0; exact this
  · have e : ((⟨W.heap.size, 0, none⟩ : Addr).add j) = ⟨W.heap.size, j, none⟩ := by simp [Addr.add, h0]
    rw [e]; exact this
theorem wr_id {x : Int} (h : -9223372036854775808 ≤ x ∧ x ≤ 9223372036854775807) : wrap64 x = x := by unfold wrap64; omega
theorem wr_one {k : Nat} (h : k + 1 ≤ 5000) : wrap64 ((k : Int) + 1) = (k : Int) + 1 := by unfold wrap64; omega
theorem wr_nat {k : Nat} (h : k + 1 ≤ 5000) : wrap64 (k : Int) = (k : Int) := by unfold wrap64; omega
theorem wr_sub {k : Nat} {f : Int} (h : k + 1 ≤ 5000) (h0 : 0 ≤ f) (h1 : f ≤ 9223372036854775807) : wrap64 ((k : Int) - f) = (k : Int) - f := by unfold wrap64; omega
theorem grow_keep {W W' : World} {v : Value} {tmp : Obj} {base : Nat} (hg : (W.alloc tmp).grownBy W' v.ownBlock) (ho : ∀ g, v.ownBlock = some g → base ≤ g) (k : Nat) (hk : k < W.heap.size) (hb : k < base) : W'.heap[k]? = W.heap[k]? :=
  (hg.block k (by simp; omega) (fun e => by have := ho k e.symm; omega)).trans (Below.heap_alloc W tmp k hk)
theorem Lie.eq {b : Nat} {os : List Obj} {W W' : World} (h : Lie b os W) (he : ∀ k, b ≤ k → k < b + os.length → W'.heap[k]? = W.heap[k]?) : Lie b os W' := fun i o hi => by
  have hl : i < os.length := (List.getElem?_eq_some_iff.1 hi).1
  exact (he _ (by omega) (by omega)).trans (h i o hi)
set_option maxHeartbeats 4000000 in
theorem List_neg {p : Pat} {s1 : Value} {a2 : Option Addr} {c2 : Nat} {S : Nat → Nat → Prop} {w : World} (h : PW p s1 (.slice a2 p.dbl.length c2) S w) (fr n : Int) (F0 : Nat) (hn1 : 1 ≤ n) (hr : n ≤ 9223372036854775807 ∧ -9223372036854775808 ≤ fr ∧ fr ≤ 9223372036854775807)
    (hf0 : fr < 0) (hf : (F0 : Int) = 0) :
    CallsIn Fence.wide 3 Tryd.prog 17 #[.agg (pvP p s1 (.slice a2 p.dbl.length c2)), .int .i64 fr, .int .i64 n] w fun e W' => ∃ v, e = .returned v ∧ W'.ownsRow w.heap.size 30 6 v (((allI p).drop F0).take (n + fr).toNat).length (flatI (((allI p).drop F0).take (n + fr).toNat)) ∧ Below w.heap.size w W' := by
  refine callsIn_of_wp_marks Tryd.func17 rfl trivial ?_ rfl
  simp only [Tryd.ntmps17, List.size_toArray, List.length_cons, List.length_nil, Nat.reduceAdd, Nat.reduceSub, Array.replicate_succ, Array.replicate_zero, List.push_toArray, List.append_toArray, List.nil_append, List.cons_append]
  obtain ⟨i0, hi, hz0, hz1, hz2⟩ := info_parts info30
  have hn : ¬ n < 1 := by omega
  have m0 : wrap64 (n + fr) = n + fr := wr_id ⟨by omega, by omega⟩
  gi_wp2_with (refine ⟨trivial, ?_⟩; gi_at_call 25; refine (issues_in _ rfl _).mono ?_; rintro e w' ⟨rfl, rfl⟩)
  have ha := allocs_get [.cells (pvP p s1 (.slice a2 p.dbl.length c2)) 24, .cells #[Value.int .i64 (0)] 3, .cells #[Value.int .i64 (n + fr)] 3, .cells #[Value.slice none 0 0] 37, .cells #[Value.int .i64 0] 3, .cells (pvP p s1 (.slice a2 p.dbl.length c2)) 24] w
  have hb1 := allocs_below [.cells (pvP p s1 (.slice a2 p.dbl.length c2)) 24, .cells #[Value.int .i64 (0)] 3, .cells #[Value.int .i64 (n + fr)] 3, .cells #[Value.slice none 0 0] 37, .cells #[Value.int .i64 0] 3, .cells (pvP p s1 (.slice a2 p.dbl.length c2)) 24] w
  have hs1 := allocs_size [.cells (pvP p s1 (.slice a2 p.dbl.length c2)) 24, .cells #[Value.int .i64 (0)] 3, .cells #[Value.int .i64 (n + fr)] 3, .cells #[Value.slice none 0 0] 37, .cells #[Value.int .i64 0] 3, .cells (pvP p s1 (.slice a2 p.dbl.length c2)) 24] w
  change Code.wpIn _ _ _ _ _ _ (allocs w [.cells (pvP p s1 (.slice a2 p.dbl.length c2)) 24, .cells #[Value.int .i64 (0)] 3, .cells #[Value.int .i64 (n + fr)] 3, .cells #[Value.slice none 0 0] 37, .cells #[Value.int .i64 0] 3, .cells (pvP p s1 (.slice a2 p.dbl.length c2)) 24])
  generalize allocs w [.cells (pvP p s1 (.slice a2 p.dbl.length c2)) 24, .cells #[Value.int .i64 (0)] 3, .cells #[Value.int .i64 (n + fr)] 3, .cells #[Value.slice none 0 0] 37, .cells #[Value.int .i64 0] 3, .cells (pvP p s1 (.slice a2 p.dbl.length c2)) 24] = w1 at ha hb1 hs1 ⊢
  replace hs1 : w1.heap.size = w.heap.size + 6 := hs1
  have hp1 : w1.heap[w.heap.size + 5]? = some (.cells (pvP p s1 (.slice a2 p.dbl.length c2)) 24) := ha 5 _ rfl
  have hl1 : Lie (w.heap.size + 1) [.cells #[Value.int .i64 (0)] 3, .cells #[Value.int .i64 (n + fr)] 3, .cells #[.slice none 0 0] 37, .cells #[.int .i64 0] 3] w1 := fun i o hi => by
    have := (List.getElem?_eq_some_iff.1 hi).1
    rw [show w.heap.size + 1 + i = w.heap.size + (i + 1) by omega]
    exact ha (i + 1) o (by match i, hi with | 0, hi => exact hi | 1, hi => exact hi | 2, hi => exact hi | 3, hi => exact hi | i + 4, hi => exact absurd this (by simp))
  refine range_X (gf := 33) (lb := #[.pointer (some ⟨w.heap.size + 5, 0, none⟩)]) (encs := fun x : Iss => #[.agg (issV x)]) (xs := allI p) (n₀ := w.heap.size) (Bp := w.heap.size + 5) rfl (enters_of Tryd.func33 (by kernel_rfl) rfl) (fun _ => rfl) (by omega) (by omega) (seq_x h hb1 hp1)
    (fun pre W => (∃ v, Lie (w.heap.size + 1) [.cells #[Value.int .i64 (0)] 3, .cells #[Value.int .i64 (n + fr)] 3, .cells #[v] 37, .cells #[.int .i64 (pre.length : Int)] 3] W ∧ W.ownsRow (w.heap.size + 9) 30 6 v (pre.length - F0) (flatI (pre.drop F0))) ∧ (F0 < pre.length → (pre.length : Int) - F0 ≤ n + fr) ∧ Below w.heap.size w W)
    (fun c pre W => c = .exit 0 ∧ (∃ (pre' : List Iss) (x : Iss) (v : Value), pre = pre' ++ [x] ∧ Lie (w.heap.size + 1) [.cells #[Value.int .i64 (0)] 3, .cells #[Value.int .i64 (n + fr)] 3, .cells #[v] 37, .cells #[.int .i64 (pre'.length : Int)] 3] W ∧ W.ownsRow (w.heap.size + 9) 30 6 v (pre'.length - F0) (flatI (pre'.drop F0)) ∧ (F0 < pre'.length → (pre'.length : Int) - F0 ≤ n + fr) ∧ F0 ≤ pre'.length ∧ n + fr ≤ (pre'.length : Int) - F0) ∧ Below w.heap.size w W)
    (fun x a' W => ∃ bx, w1.heap.size + 2 < bx ∧ W.heap[bx]? = some (.cells (issV x) 30) ∧ a' = { tmps := #[.agg (pvP p s1 (.slice a2 p.dbl.length c2)), .int .i64 fr, .int .i64 n, .pointer (some ⟨w.heap.size, 0, none⟩), undef, undef, .slice none 0 0, .pointer (some ⟨w.heap.size + 1, 0, none⟩), .pointer (some ⟨w.heap.size + 1 + 1, 0, none⟩), .pointer (some ⟨w.heap.size + 1 + 1 + 1, 0, none⟩), .pointer (some ⟨w.heap.size + 1 + 1 + 1 + 1, 0, none⟩), .pointer (some ⟨bx, 0, none⟩), .int .i64 n, .bool false, .int .i64 fr, .int .i64 n, .int .i64 fr, .bool true, .int .i64 n, .int .i64 fr, .int .i64 (n + fr), .agg (pvP p s1 (.slice a2 p.dbl.length c2)), .func (.func 33) #[] #[.pointer (some ⟨w.heap.size + 1 + 1 + 1 + 1 + 1, 0, none⟩)], .agg (issV x), undef, undef, undef, undef, undef, undef, undef, undef, undef, undef, undef, undef, undef, undef, undef, undef, undef, undef, undef, undef], defers := [] })
    (fun s A A' ⟨⟨v, hl, ho⟩, hi, hb⟩ ht => ⟨⟨v, hl.turn ht (by simp; omega), own_heap ho fun g hg hl' => ht.block g hl' (by omega)⟩, hi, hb.trans (ht.below hb.size (by omega))⟩)
    (fun c s A A' ⟨hc, ⟨pre', x, v, e1, hl, ho, e2⟩, hb⟩ ht => ⟨hc, ⟨pre', x, v, e1, hl.turn ht (by simp; omega), own_heap ho fun g hg hl' => ht.block g hl' (by omega), e2⟩, hb.trans (ht.below hb.size (by omega))⟩)
    (fun s A o ⟨⟨v, hl, ho⟩, hi, hb⟩ => ⟨⟨v, hl.put (by simp; omega), own_heap ho fun g hg hl' => World.putObj_heap_other (by omega)⟩, hi, hb.trans (put_below hb.size (by omega) o)⟩)
    (fun c s A o ⟨hc, ⟨pre', x, v, e1, hl, ho, e2⟩, hb⟩ => ⟨hc, ⟨pre', x, v, e1, hl.put (by simp; omega), own_heap ho fun g hg hl' => World.putObj_heap_other (by omega), e2⟩, hb.trans (put_below hb.size (by omega) o)⟩)
    (fun x a' A o ⟨bx, h1, h2, h3⟩ => ⟨bx, h1, (World.putObj_heap_other (by omega)).trans h2, h3⟩)
    ⟨⟨_, hl1, by simpa [flatI] using World.ownsRow_nil w1 (w.heap.size + 9) 30 6⟩, by simp, hb1⟩ ?assign ?body ?done ?stop
  case assign =>
    rintro pre x W K ⟨⟨v, hl, ho⟩, hi', hb⟩ hsz hK
    gi_wp2
    exact hK _ _ ⟨(Below.refl _ W).alloc hb.size _, fun k _ hk => Below.heap_alloc W _ k hk⟩ ⟨⟨v, hl.turn (B := w1.heap.size + 2) (Turn.alloc _) (by simp; omega), own_heap ho fun g hg hl' => Below.heap_alloc W _ g hl'⟩, hi', hb.trans ((Below.refl _ W).alloc hb.size _)⟩ ⟨W.heap.size, hsz, World.alloc_heap_new W _, rfl⟩
  case body =>
    rintro pre x a' W ⟨⟨v, hl, ho⟩, hnn, hb⟩ ⟨bx, hbx, hcx, rfl⟩ hsz hpre
    replace hnn : Hid (F0 < pre.length → (pre.length : Int) - F0 ≤ n + fr) := hnn
    clear ha hb1 hl1 m0
    have cf : W.cell? ⟨w.heap.size + 1, 0, none⟩ = some (.int .i64 (0)) := (box1 (hl 0 _ rfl)).1
    have cc : W.cell? ⟨w.heap.size + 1 + 1, 0, none⟩ = some (.int .i64 (n + fr)) := (box1 (hl 1 _ rfl)).1
    have co : W.cell? ⟨w.heap.size + 1 + 1 + 1, 0, none⟩ = some v := (box1 (hl 2 _ rfl)).1
    have ck : W.cell? ⟨w.heap.size + 1 + 1 + 1 + 1, 0, none⟩ = some (.int .i64 (pre.length : Int)) := (box1 (hl 3 _ rfl)).1
    have fk : W.frozen? ⟨w.heap.size + 1 + 1 + 1 + 1, 0, none⟩ = false := (box1 (hl 3 _ rfl)).2
    have fo : W.frozen? ⟨w.heap.size + 1 + 1 + 1, 0, none⟩ = false := (box1 (hl 2 _ rfl)).2
    obtain ⟨⟨x0, x1, x2, x3, x4, x5⟩, _⟩ := box6 hcx
    have h5 : pre.length + 1 ≤ 5000 := by have h1 := hpre.length_le; have h2 := allI_len p; rw [List.length_append, List.length_singleton] at h1; omega
    have hlE : ∀ V : World, (∀ k, k < W.heap.size → k < w.heap.size + 9 → V.heap[k]? = W.heap[k]?) → Lie (w.heap.size + 1) [.cells #[Value.int .i64 (0)] 3, .cells #[Value.int .i64 (n + fr)] 3, .cells #[v] 37, .cells #[.int .i64 (pre.length : Int)] 3] V := fun V hV => hl.eq (fun k h1 h2 => hV k (by simp at h2; omega) (by simp at h2; omega))
    have hb3 : w.heap.size + 9 ≤ (W.alloc (.cells (issV x) 30)).heap.size := by simp; omega
    by_cases g1 : 0 ≤ (pre.length : Int)
    · by_cases g2 : n + fr ≤ (pre.length : Int)
      · have z1 : F0 ≤ pre.length := by omega
        have z2 : n + fr ≤ (pre.length : Int) - F0 := by omega
        have m1 : wrap64 ((pre.length : Int) + 1) = (pre.length : Int) + 1 := wr_one h5
        have m2 : wrap64 ((pre.length : Int)) = (pre.length : Int) := wr_nat h5
        replace z1 : Hid _ := z1
        replace z2 : Hid _ := z2
        replace hlE : Hid _ := hlE
        replace hf : Hid _ := hf
        replace hf0 : Hid _ := hf0
        replace hn1 : Hid _ := hn1
        replace hr : Hid _ := hr
        replace hn : Hid _ := hn
        replace hb3 : Hid _ := hb3
        clear h5 hpre
        gi_wp2
        exact ⟨Keep.refl _, rfl, ⟨pre, x, v, rfl, hl, ho, hnn, z1, z2⟩, hb⟩
      · have hm1 : pre.length - F0 + 1 ≤ maxLen := by simp only [maxLen]; omega
        have hm2 : (pre.length - F0 + 1) * 48 ≤ 140737488355328 := by omega
        have hob := own_block ho
        replace hm1 : Hid _ := hm1
        replace hm2 : Hid _ := hm2
        replace hb3 : Hid _ := hb3
        have z3 : (F0 < (pre ++ [x]).length → ((pre ++ [x]).length : Int) - F0 ≤ n + fr) := fun _ => by rw [List.length_append, List.length_singleton]; omega
        have m1 : wrap64 ((pre.length : Int) + 1) = (pre.length : Int) + 1 := wr_one h5
        have m2 : wrap64 ((pre.length : Int)) = (pre.length : Int) := wr_nat h5
        replace z3 : Hid _ := z3
        replace hob : Hid _ := hob
        replace hlE : Hid _ := hlE
        replace g1 : Hid _ := g1
        replace hf : Hid _ := hf
        replace hf0 : Hid _ := hf0
        replace hn1 : Hid _ := hn1
        replace hr : Hid _ := hr
        replace hn : Hid _ := hn
        replace hs1 : Hid _ := hs1
        clear h5 hpre
        gi_wp2_with (gi_at_builtin; refine wpListIn_append_own _ rfl _ _ 37 rfl (w.heap.size + 9) 30 i0 (.agg #[.int .i64 0, .int .i64 0, .int .i64 0, .int .i64 0, .int .i64 0, .int .i64 0]) 6 48 Tryd.underlying37 hi hz0 hz1 hz2 rfl (by decide) _ _ _ rfl (ho.alloc _) ⟨W.heap.size, 0, none⟩ 1 1 (issV x).toList rfl rfl (cells_new _ _ _) (by simp [Value.oneCell']) hm1 hm2 hb3 ?_; intro v' V hown' hgrow _; obtain ⟨g', cap', rfl⟩ := ownsRow_succ hown'; have hgk := grow_keep hgrow (show ∀ g, v.ownBlock = some g → w.heap.size + 9 ≤ g from hob); have hlV := (show ∀ V : World, _ → _ from hlE) V hgk; have coV := (box1 (b := w.heap.size + 1 + 1 + 1) (hlV 2 _ rfl)).1; have foV := (box1 (b := w.heap.size + 1 + 1 + 1) (hlV 2 _ rfl)).2; have ckV := (box1 (b := w.heap.size + 1 + 1 + 1 + 1) (hlV 3 _ rfl)).1; have fkV := (box1 (b := w.heap.size + 1 + 1 + 1 + 1) (hlV 3 _ rfl)).2)
        clear m1 m2
        unfold Hid at z3 hob hlE g1 hf hf0 hn1 hr hn hs1
        have hkV : Keep w.heap.size (KX (w.heap.size + 6) (w.heap.size + 5)) W V := ⟨((Below.refl w.heap.size W).alloc hb.size _).grown hgrow (by simp; have := hb.size; omega) (fun k e => by have := hob k e; omega), fun k hk hlt => hgk k hlt (by unfold KX at hk; omega)⟩
        have hk : Keep w.heap.size (KX (w.heap.size + 6) (w.heap.size + 5)) W ((V.setCell ⟨w.heap.size + 1 + 1 + 1, 0, none⟩ (.slice (some ⟨g', 0, none⟩) (pre.length - F0 + 1) cap')).setCell ⟨w.heap.size + 1 + 1 + 1 + 1, 0, none⟩ (.int .i64 ((pre.length : Int) + 1))) :=
          (hkV.trans (keep_set (by omega) (by unfold KX; omega))).trans (keep_set (by omega) (by unfold KX; omega))
        have hdr : (pre ++ [x]).drop F0 = pre.drop F0 ++ [x] := List.drop_append_of_le_length (by omega)
        have l2 := hlV.set (i := 2) (j := 0) (v := .slice (some ⟨g', 0, none⟩) (pre.length - F0 + 1) cap') (by simp) (box1_set (hlV 2 _ rfl))
        have l3 := l2.set (i := 3) (j := 0) (v := .int .i64 ((pre.length : Int) + 1)) (by simp) (box1_set (l2 3 _ rfl))
        refine ⟨by rw [hs1]; exact hk, ⟨_, by simpa using l3, ?_⟩, z3, hb.trans hk.below⟩
        rw [hdr, flatI_snoc, show (pre ++ [x]).length - F0 = pre.length - F0 + 1 by simp; omega]
        exact own_heap hown' fun g hg _ => (set_other (by simp; omega)).trans (set_other (by simp; omega))
    · exact absurd (Int.natCast_nonneg _) g1
  case done =>
    rintro W ⟨⟨v, hl, ho⟩, hnn, hb⟩ hD
    have co : W.cell? ⟨w.heap.size + 1 + 1 + 1, 0, none⟩ = some v := (box1 (hl 2 _ rfl)).1
    gi_wp2
    refine ⟨by simp, .inl ⟨_, _, rfl, run_takeDeferred hD, ?_⟩⟩
    refine ⟨_, results_tmp rfl _ _ _, v, rfl, ?_, hb.trans (put_below hb.size (by omega) _)⟩
    rw [list_all (C := n + fr) hnn, List.length_drop]
    exact own_base (own_heap ho fun g hg hl' => World.putObj_heap_other (by omega)) (by omega)
  case stop =>
    rintro c pre W hpre ⟨rfl, ⟨pre', x, v, rfl, hl, ho, e2, e3, e4⟩, hb⟩ hD
    have co : W.cell? ⟨w.heap.size + 1 + 1 + 1, 0, none⟩ = some v := (box1 (hl 2 _ rfl)).1
    gi_wp2
    refine ⟨by simp, .inl ⟨_, _, rfl, run_takeDeferred hD, ?_⟩⟩
    refine ⟨_, results_tmp rfl _ _ _, v, rfl, ?_, hb.trans (put_below hb.size (by omega) _)⟩
    rw [list_cut hpre e2 e3 e4, List.length_drop]
    exact own_base (own_heap ho fun g hg hl' => World.putObj_heap_other (by omega)) (by omega)
set_option maxHeartbeats 4000000 in
theorem List_pos {p : Pat} {s1 : Value} {a2 : Option Addr} {c2 : Nat} {S : Nat → Nat → Prop} {w : World} (h : PW p s1 (.slice a2 p.dbl.length c2) S w) (fr n : Int) (F0 : Nat) (hn1 : 1 ≤ n) (hr : n ≤ 9223372036854775807 ∧ -9223372036854775808 ≤ fr ∧ fr ≤ 9223372036854775807)
    (hf0 : ¬ fr < 0) (hf : (F0 : Int) = fr) :
    CallsIn Fence.wide 3 Tryd.prog 17 #[.agg (pvP p s1 (.slice a2 p.dbl.length c2)), .int .i64 fr, .int .i64 n] w fun e W' => ∃ v, e = .returned v ∧ W'.ownsRow w.heap.size 30 6 v (((allI p).drop F0).take (n).toNat).length (flatI (((allI p).drop F0).take (n).toNat)) ∧ Below w.heap.size w W' := by
  refine callsIn_of_wp_marks Tryd.func17 rfl trivial ?_ rfl
  simp only [Tryd.ntmps17, List.size_toArray, List.length_cons, List.length_nil, Nat.reduceAdd, Nat.reduceSub, Array.replicate_succ, Array.replicate_zero, List.push_toArray, List.append_toArray, List.nil_append, List.cons_append]
  obtain ⟨i0, hi, hz0, hz1, hz2⟩ := info_parts info30
  have hn : ¬ n < 1 := by omega
  gi_wp2_with (refine ⟨trivial, ?_⟩; gi_at_call 25; refine (issues_in _ rfl _).mono ?_; rintro e w' ⟨rfl, rfl⟩)
  have ha := allocs_get [.cells (pvP p s1 (.slice a2 p.dbl.length c2)) 24, .cells #[Value.int .i64 (fr)] 3, .cells #[Value.int .i64 (n)] 3, .cells #[Value.slice none 0 0] 37, .cells #[Value.int .i64 0] 3, .cells (pvP p s1 (.slice a2 p.dbl.length c2)) 24] w
  have hb1 := allocs_below [.cells (pvP p s1 (.slice a2 p.dbl.length c2)) 24, .cells #[Value.int .i64 (fr)] 3, .cells #[Value.int .i64 (n)] 3, .cells #[Value.slice none 0 0] 37, .cells #[Value.int .i64 0] 3, .cells (pvP p s1 (.slice a2 p.dbl.length c2)) 24] w
  have hs1 := allocs_size [.cells (pvP p s1 (.slice a2 p.dbl.length c2)) 24, .cells #[Value.int .i64 (fr)] 3, .cells #[Value.int .i64 (n)] 3, .cells #[Value.slice none 0 0] 37, .cells #[Value.int .i64 0] 3, .cells (pvP p s1 (.slice a2 p.dbl.length c2)) 24] w
  change Code.wpIn _ _ _ _ _ _ (allocs w [.cells (pvP p s1 (.slice a2 p.dbl.length c2)) 24, .cells #[Value.int .i64 (fr)] 3, .cells #[Value.int .i64 (n)] 3, .cells #[Value.slice none 0 0] 37, .cells #[Value.int .i64 0] 3, .cells (pvP p s1 (.slice a2 p.dbl.length c2)) 24])
  generalize allocs w [.cells (pvP p s1 (.slice a2 p.dbl.length c2)) 24, .cells #[Value.int .i64 (fr)] 3, .cells #[Value.int .i64 (n)] 3, .cells #[Value.slice none 0 0] 37, .cells #[Value.int .i64 0] 3, .cells (pvP p s1 (.slice a2 p.dbl.length c2)) 24] = w1 at ha hb1 hs1 ⊢
  replace hs1 : w1.heap.size = w.heap.size + 6 := hs1
  have hp1 : w1.heap[w.heap.size + 5]? = some (.cells (pvP p s1 (.slice a2 p.dbl.length c2)) 24) := ha 5 _ rfl
  have hl1 : Lie (w.heap.size + 1) [.cells #[Value.int .i64 (fr)] 3, .cells #[Value.int .i64 (n)] 3, .cells #[.slice none 0 0] 37, .cells #[.int .i64 0] 3] w1 := fun i o hi => by
    have := (List.getElem?_eq_some_iff.1 hi).1
    rw [show w.heap.size + 1 + i = w.heap.size + (i + 1) by omega]
    exact ha (i + 1) o (by match i, hi with | 0, hi => exact hi | 1, hi => exact hi | 2, hi => exact hi | 3, hi => exact hi | i + 4, hi => exact absurd this (by simp))
  refine range_X (gf := 33) (lb := #[.pointer (some ⟨w.heap.size + 5, 0, none⟩)]) (encs := fun x : Iss => #[.agg (issV x)]) (xs := allI p) (n₀ := w.heap.size) (Bp := w.heap.size + 5) rfl (enters_of Tryd.func33 (by kernel_rfl) rfl) (fun _ => rfl) (by omega) (by omega) (seq_x h hb1 hp1)
    (fun pre W => (∃ v, Lie (w.heap.size + 1) [.cells #[Value.int .i64 (fr)] 3, .cells #[Value.int .i64 (n)] 3, .cells #[v] 37, .cells #[.int .i64 (pre.length : Int)] 3] W ∧ W.ownsRow (w.heap.size + 9) 30 6 v (pre.length - F0) (flatI (pre.drop F0))) ∧ (F0 < pre.length → (pre.length : Int) - F0 ≤ n) ∧ Below w.heap.size w W)
    (fun c pre W => c = .exit 0 ∧ (∃ (pre' : List Iss) (x : Iss) (v : Value), pre = pre' ++ [x] ∧ Lie (w.heap.size + 1) [.cells #[Value.int .i64 (fr)] 3, .cells #[Value.int .i64 (n)] 3, .cells #[v] 37, .cells #[.int .i64 (pre'.length : Int)] 3] W ∧ W.ownsRow (w.heap.size + 9) 30 6 v (pre'.length - F0) (flatI (pre'.drop F0)) ∧ (F0 < pre'.length → (pre'.length : Int) - F0 ≤ n) ∧ F0 ≤ pre'.length ∧ n ≤ (pre'.length : Int) - F0) ∧ Below w.heap.size w W)
    (fun x a' W => ∃ bx, w1.heap.size + 2 < bx ∧ W.heap[bx]? = some (.cells (issV x) 30) ∧ a' = { tmps := #[.agg (pvP p s1 (.slice a2 p.dbl.length c2)), .int .i64 fr, .int .i64 n, .pointer (some ⟨w.heap.size, 0, none⟩), undef, undef, .slice none 0 0, .pointer (some ⟨w.heap.size + 1, 0, none⟩), .pointer (some ⟨w.heap.size + 1 + 1, 0, none⟩), .pointer (some ⟨w.heap.size + 1 + 1 + 1, 0, none⟩), .pointer (some ⟨w.heap.size + 1 + 1 + 1 + 1, 0, none⟩), .pointer (some ⟨bx, 0, none⟩), .int .i64 n, .bool false, .int .i64 fr, .int .i64 n, .int .i64 fr, .bool false, undef, undef, undef, .agg (pvP p s1 (.slice a2 p.dbl.length c2)), .func (.func 33) #[] #[.pointer (some ⟨w.heap.size + 1 + 1 + 1 + 1 + 1, 0, none⟩)], .agg (issV x), undef, undef, undef, undef, undef, undef, undef, undef, undef, undef, undef, undef, undef, undef, undef, undef, undef, undef, undef, undef], defers := [] })
    (fun s A A' ⟨⟨v, hl, ho⟩, hi, hb⟩ ht => ⟨⟨v, hl.turn ht (by simp; omega), own_heap ho fun g hg hl' => ht.block g hl' (by omega)⟩, hi, hb.trans (ht.below hb.size (by omega))⟩)
    (fun c s A A' ⟨hc, ⟨pre', x, v, e1, hl, ho, e2⟩, hb⟩ ht => ⟨hc, ⟨pre', x, v, e1, hl.turn ht (by simp; omega), own_heap ho fun g hg hl' => ht.block g hl' (by omega), e2⟩, hb.trans (ht.below hb.size (by omega))⟩)
    (fun s A o ⟨⟨v, hl, ho⟩, hi, hb⟩ => ⟨⟨v, hl.put (by simp; omega), own_heap ho fun g hg hl' => World.putObj_heap_other (by omega)⟩, hi, hb.trans (put_below hb.size (by omega) o)⟩)
    (fun c s A o ⟨hc, ⟨pre', x, v, e1, hl, ho, e2⟩, hb⟩ => ⟨hc, ⟨pre', x, v, e1, hl.put (by simp; omega), own_heap ho fun g hg hl' => World.putObj_heap_other (by omega), e2⟩, hb.trans (put_below hb.size (by omega) o)⟩)
    (fun x a' A o ⟨bx, h1, h2, h3⟩ => ⟨bx, h1, (World.putObj_heap_other (by omega)).trans h2, h3⟩)
    ⟨⟨_, hl1, by simpa [flatI] using World.ownsRow_nil w1 (w.heap.size + 9) 30 6⟩, by simp, hb1⟩ ?assign ?body ?done ?stop
  case assign =>
    rintro pre x W K ⟨⟨v, hl, ho⟩, hi', hb⟩ hsz hK
    gi_wp2
    exact hK _ _ ⟨(Below.refl _ W).alloc hb.size _, fun k _ hk => Below.heap_alloc W _ k hk⟩ ⟨⟨v, hl.turn (B := w1.heap.size + 2) (Turn.alloc _) (by simp; omega), own_heap ho fun g hg hl' => Below.heap_alloc W _ g hl'⟩, hi', hb.trans ((Below.refl _ W).alloc hb.size _)⟩ ⟨W.heap.size, hsz, World.alloc_heap_new W _, rfl⟩
  case body =>
    rintro pre x a' W ⟨⟨v, hl, ho⟩, hnn, hb⟩ ⟨bx, hbx, hcx, rfl⟩ hsz hpre
    replace hnn : Hid (F0 < pre.length → (pre.length : Int) - F0 ≤ n) := hnn
    clear ha hb1 hl1
    have cf : W.cell? ⟨w.heap.size + 1, 0, none⟩ = some (.int .i64 (fr)) := (box1 (hl 0 _ rfl)).1
    have cc : W.cell? ⟨w.heap.size + 1 + 1, 0, none⟩ = some (.int .i64 (n)) := (box1 (hl 1 _ rfl)).1
    have co : W.cell? ⟨w.heap.size + 1 + 1 + 1, 0, none⟩ = some v := (box1 (hl 2 _ rfl)).1
    have ck : W.cell? ⟨w.heap.size + 1 + 1 + 1 + 1, 0, none⟩ = some (.int .i64 (pre.length : Int)) := (box1 (hl 3 _ rfl)).1
    have fk : W.frozen? ⟨w.heap.size + 1 + 1 + 1 + 1, 0, none⟩ = false := (box1 (hl 3 _ rfl)).2
    have fo : W.frozen? ⟨w.heap.size + 1 + 1 + 1, 0, none⟩ = false := (box1 (hl 2 _ rfl)).2
    obtain ⟨⟨x0, x1, x2, x3, x4, x5⟩, _⟩ := box6 hcx
    have h5 : pre.length + 1 ≤ 5000 := by have h1 := hpre.length_le; have h2 := allI_len p; rw [List.length_append, List.length_singleton] at h1; omega
    have hlE : ∀ V : World, (∀ k, k < W.heap.size → k < w.heap.size + 9 → V.heap[k]? = W.heap[k]?) → Lie (w.heap.size + 1) [.cells #[Value.int .i64 (fr)] 3, .cells #[Value.int .i64 (n)] 3, .cells #[v] 37, .cells #[.int .i64 (pre.length : Int)] 3] V := fun V hV => hl.eq (fun k h1 h2 => hV k (by simp at h2; omega) (by simp at h2; omega))
    have hb3 : w.heap.size + 9 ≤ (W.alloc (.cells (issV x) 30)).heap.size := by simp; omega
    by_cases g1 : fr ≤ (pre.length : Int)
    · by_cases g2 : n ≤ (pre.length : Int) - (fr)
      · have z1 : F0 ≤ pre.length := by omega
        have z2 : n ≤ (pre.length : Int) - F0 := by omega
        have m1 : wrap64 ((pre.length : Int) + 1) = (pre.length : Int) + 1 := wr_one h5
        have m2 : wrap64 ((pre.length : Int) - (fr)) = (pre.length : Int) - (fr) := wr_sub h5 (by omega) (by omega)
        replace z1 : Hid _ := z1
        replace z2 : Hid _ := z2
        replace hlE : Hid _ := hlE
        replace hf : Hid _ := hf
        replace hf0 : Hid _ := hf0
        replace hn1 : Hid _ := hn1
        replace hr : Hid _ := hr
        replace hn : Hid _ := hn
        replace hb3 : Hid _ := hb3
        clear h5 hpre
        gi_wp2
        exact ⟨Keep.refl _, rfl, ⟨pre, x, v, rfl, hl, ho, hnn, z1, z2⟩, hb⟩
      · have hm1 : pre.length - F0 + 1 ≤ maxLen := by simp only [maxLen]; omega
        have hm2 : (pre.length - F0 + 1) * 48 ≤ 140737488355328 := by omega
        have hob := own_block ho
        replace hm1 : Hid _ := hm1
        replace hm2 : Hid _ := hm2
        replace hb3 : Hid _ := hb3
        have z3 : (F0 < (pre ++ [x]).length → ((pre ++ [x]).length : Int) - F0 ≤ n) := fun _ => by rw [List.length_append, List.length_singleton]; omega
        have m1 : wrap64 ((pre.length : Int) + 1) = (pre.length : Int) + 1 := wr_one h5
        have m2 : wrap64 ((pre.length : Int) - (fr)) = (pre.length : Int) - (fr) := wr_sub h5 (by omega) (by omega)
        replace z3 : Hid _ := z3
        replace hob : Hid _ := hob
        replace hlE : Hid _ := hlE
        replace hf : Hid _ := hf
        replace hf0 : Hid _ := hf0
        replace hn1 : Hid _ := hn1
        replace hr : Hid _ := hr
        replace hn : Hid _ := hn
        replace hs1 : Hid _ := hs1
        clear h5 hpre
        gi_wp2_with (gi_at_builtin; refine wpListIn_append_own _ rfl _ _ 37 rfl (w.heap.size + 9) 30 i0 (.agg #[.int .i64 0, .int .i64 0, .int .i64 0, .int .i64 0, .int .i64 0, .int .i64 0]) 6 48 Tryd.underlying37 hi hz0 hz1 hz2 rfl (by decide) _ _ _ rfl (ho.alloc _) ⟨W.heap.size, 0, none⟩ 1 1 (issV x).toList rfl rfl (cells_new _ _ _) (by simp [Value.oneCell']) hm1 hm2 hb3 ?_; intro v' V hown' hgrow _; obtain ⟨g', cap', rfl⟩ := ownsRow_succ hown'; have hgk := grow_keep hgrow (show ∀ g, v.ownBlock = some g → w.heap.size + 9 ≤ g from hob); have hlV := (show ∀ V : World, _ → _ from hlE) V hgk; have coV := (box1 (b := w.heap.size + 1 + 1 + 1) (hlV 2 _ rfl)).1; have foV := (box1 (b := w.heap.size + 1 + 1 + 1) (hlV 2 _ rfl)).2; have ckV := (box1 (b := w.heap.size + 1 + 1 + 1 + 1) (hlV 3 _ rfl)).1; have fkV := (box1 (b := w.heap.size + 1 + 1 + 1 + 1) (hlV 3 _ rfl)).2)
        clear m1 m2
        unfold Hid at z3 hob hlE hf hf0 hn1 hr hn hs1
        have hkV : Keep w.heap.size (KX (w.heap.size + 6) (w.heap.size + 5)) W V := ⟨((Below.refl w.heap.size W).alloc hb.size _).grown hgrow (by simp; have := hb.size; omega) (fun k e => by have := hob k e; omega), fun k hk hlt => hgk k hlt (by unfold KX at hk; omega)⟩
        have hk : Keep w.heap.size (KX (w.heap.size + 6) (w.heap.size + 5)) W ((V.setCell ⟨w.heap.size + 1 + 1 + 1, 0, none⟩ (.slice (some ⟨g', 0, none⟩) (pre.length - F0 + 1) cap')).setCell ⟨w.heap.size + 1 + 1 + 1 + 1, 0, none⟩ (.int .i64 ((pre.length : Int) + 1))) :=
          (hkV.trans (keep_set (by omega) (by unfold KX; omega))).trans (keep_set (by omega) (by unfold KX; omega))
        have hdr : (pre ++ [x]).drop F0 = pre.drop F0 ++ [x] := List.drop_append_of_le_length (by omega)
        have l2 := hlV.set (i := 2) (j := 0) (v := .slice (some ⟨g', 0, none⟩) (pre.length - F0 + 1) cap') (by simp) (box1_set (hlV 2 _ rfl))
        have l3 := l2.set (i := 3) (j := 0) (v := .int .i64 ((pre.length : Int) + 1)) (by simp) (box1_set (l2 3 _ rfl))
        refine ⟨by rw [hs1]; exact hk, ⟨_, by simpa using l3, ?_⟩, z3, hb.trans hk.below⟩
        rw [hdr, flatI_snoc, show (pre ++ [x]).length - F0 = pre.length - F0 + 1 by simp; omega]
        exact own_heap hown' fun g hg _ => (set_other (by simp; omega)).trans (set_other (by simp; omega))
    · have z3 : (F0 < (pre ++ [x]).length → ((pre ++ [x]).length : Int) - F0 ≤ n) := fun h => by rw [List.length_append, List.length_singleton] at h; omega
      have m1 : wrap64 ((pre.length : Int) + 1) = (pre.length : Int) + 1 := wr_one h5
      have m2 : wrap64 ((pre.length : Int) - (fr)) = (pre.length : Int) - (fr) := wr_sub h5 (by omega) (by omega)
      replace z3 : Hid _ := z3
      replace hlE : Hid _ := hlE
      replace hf : Hid _ := hf
      replace hf0 : Hid _ := hf0
      replace hn1 : Hid _ := hn1
      replace hr : Hid _ := hr
      replace hn : Hid _ := hn
      replace hb3 : Hid _ := hb3
      clear h5 hpre
      gi_wp2
      clear m1 m2
      unfold Hid at z3 hf hf0 hn1 hr hn
      have hk : Keep w.heap.size (KX (w.heap.size + 6) (w.heap.size + 5)) W (W.setCell ⟨w.heap.size + 1 + 1 + 1 + 1, 0, none⟩ (.int .i64 ((pre.length : Int) + 1))) := keep_set (by omega) (by unfold KX; omega)
      have hdr : (pre ++ [x]).drop F0 = [] := List.drop_eq_nil_of_le (by simp; omega)
      have hdr0 : pre.drop F0 = [] := List.drop_eq_nil_of_le (by omega)
      rw [hdr0, show pre.length - F0 = 0 by omega] at ho
      refine ⟨hk, ⟨v, ?_, ?_⟩, z3, hb.trans hk.below⟩
      · have := hl.set (i := 3) (j := 0) (v := .int .i64 ((pre.length : Int) + 1)) (by simp) (box1_set (hl 3 _ rfl))
        simpa using this
      · rw [hdr, show (pre ++ [x]).length - F0 = 0 by simp; omega]
        exact own_heap ho fun g hg _ => set_other (by simp; omega)
  case done =>
    rintro W ⟨⟨v, hl, ho⟩, hnn, hb⟩ hD
    have co : W.cell? ⟨w.heap.size + 1 + 1 + 1, 0, none⟩ = some v := (box1 (hl 2 _ rfl)).1
    gi_wp2
    refine ⟨by simp, .inl ⟨_, _, rfl, run_takeDeferred hD, ?_⟩⟩
    refine ⟨_, results_tmp rfl _ _ _, v, rfl, ?_, hb.trans (put_below hb.size (by omega) _)⟩
    rw [list_all (C := n) hnn, List.length_drop]
    exact own_base (own_heap ho fun g hg hl' => World.putObj_heap_other (by omega)) (by omega)
  case stop =>
    rintro c pre W hpre ⟨rfl, ⟨pre', x, v, rfl, hl, ho, e2, e3, e4⟩, hb⟩ hD
    have co : W.cell? ⟨w.heap.size + 1 + 1 + 1, 0, none⟩ = some v := (box1 (hl 2 _ rfl)).1
    gi_wp2
    refine ⟨by simp, .inl ⟨_, _, rfl, run_takeDeferred hD, ?_⟩⟩
    refine ⟨_, results_tmp rfl _ _ _, v, rfl, ?_, hb.trans (put_below hb.size (by omega) _)⟩
    rw [list_cut hpre e2 e3 e4, List.length_drop]
    exact own_base (own_heap ho fun g hg hl' => World.putObj_heap_other (by omega)) (by omega)

end Go.Proofs.YtfaaceakmfokoaaDoor

set_option maxRecDepth 100000
set_option linter.unusedSimpArgs false
set_option linter.unusedVariables false
namespace Go.Proofs.YtfaaceakmfokoaaDoor
open Go Ab Pl
open Go.RowKit Go.Shelf
attribute [local go_sem] Oper.semAt_some
theorem List_nil {p : Pat} {s1 : Value} {a2 : Option Addr} {c2 : Nat} (w : World) (fr n : Int) (hn : n < 1) :
    CallsIn Fence.wide 3 Tryd.prog 17 #[.agg (pvP p s1 (.slice a2 p.dbl.length c2)), .int .i64 fr, .int .i64 n] w fun e W' => e = .returned (.slice none 0 0) ∧ Below w.heap.size w W' := by
  refine callsIn_of_wp Tryd.func17 rfl trivial ?_ rfl
  simp only [Tryd.ntmps17, List.size_toArray, List.length_cons, List.length_nil, Nat.reduceAdd, Nat.reduceSub, Array.replicate_succ, Array.replicate_zero, List.push_toArray, List.append_toArray, List.nil_append, List.cons_append]
  gi_wp2
  go_ret
  exact ⟨rfl, (Below.refl _ w).alloc (Nat.le_refl _) _⟩
theorem flatI_get : ∀ (l : List Iss) (i j : Nat) (x : Iss), l[i]? = some x → j < 6 → (flatI l)[i * 6 + j]? = (issV x).toList[j]?
  | y :: l, 0, j, x, h, hj => by
    cases h
    show ((issV y).toList ++ flatI l)[0 * 6 + j]? = _
    rw [Nat.zero_mul, Nat.zero_add, List.getElem?_append_left (by simpa using hj)]
  | y :: l, i + 1, j, x, h, hj => by
    show ((issV y).toList ++ flatI l)[(i + 1) * 6 + j]? = _
    rw [List.getElem?_append_right (by simp; omega), show (i + 1) * 6 + j - (issV y).toList.length = i * 6 + j by simp; omega]
    exact flatI_get l i j x h hj
theorem rep_cell {w : World} {S : Nat → Nat → Prop} {x : Iss} (h : IssSm x) {j : Nat} {c : D} (hc : (encIss x).cells[j]? = some c) : ∃ v, (issV x).toList[j]? = some v ∧ Rep w S c v := by
  unfold IssSm at h
  match j, hc with
  | 0, hc => simp [encIss, D.cells] at hc; subst hc; exact ⟨_, rfl, .int _ _ (by simp; omega)⟩
  | 1, hc => simp [encIss, D.cells] at hc; subst hc; exact ⟨_, rfl, .int _ _ (by simp; omega)⟩
  | 2, hc => simp [encIss, D.cells] at hc; subst hc; exact ⟨_, rfl, .int _ _ (by simp; omega)⟩
  | 3, hc => simp [encIss, D.cells] at hc; subst hc; exact ⟨_, rfl, .int _ _ (by simp; omega)⟩
  | 4, hc => simp [encIss, D.cells] at hc; subst hc; exact ⟨_, rfl, .int _ _ (by simp; omega)⟩
  | 5, hc => simp [encIss, D.cells] at hc; subst hc; exact ⟨_, rfl, .int _ _ (by simp; omega)⟩
  | j + 6, hc => simp [encIss, D.cells] at hc
theorem rep_isss {w W : World} {S : Nat → Nat → Prop} {l : List Iss} {v : Value} {t : TypeId} (h : W.ownsRow w.heap.size t 6 v l.length (flatI l)) (hs : ∀ x ∈ l, IssSm x) : Rep W (stayed w W S none) (encIsss l) v := by
  obtain ⟨h0, ⟨rfl, h1⟩ | ⟨g, cap, cur, rfl, e2, e3, e4, e5, e6, e7⟩⟩ := h
  · rw [List.length_eq_zero_iff.1 h1]; exact .nil _ none 0 (by simp [maxLen])
  · rw [encIsss_eq]
    have hg := (Array.getElem?_eq_some_iff.1 e3).1
    have hlen : l.length = (l.map encIss).length := by simp
    have at_i : ∀ (i : Nat) (e : D), (l.map encIss)[i]? = some e → ∃ x, l[i]? = some x ∧ encIss x = e := fun i e h => by simpa [List.getElem?_map] using h
    have val : ∀ (i j : Nat) (e c : D), (l.map encIss)[i]? = some e → e.cells[j]? = some c → ∃ v, (flatI l)[i * 6 + j]? = some v ∧ Rep W (stayed w W S none) c v := fun i j e c h1 h2 => by
      obtain ⟨x, hx, rfl⟩ := at_i i e h1
      have hj : j < 6 := (List.getElem?_eq_some_iff.1 h2).1
      obtain ⟨v, hv, hr⟩ := rep_cell (w := W) (S := stayed w W S none) (hs x (List.mem_of_getElem? hx)) h2
      exact ⟨v, by rw [flatI_get l i j x hx hj]; exact hv, hr⟩
    rw [hlen]
    refine .slice (encIss zIss) 6 rfl (l.map encIss) g 0 cap (fun i j => ((flatI l)[i * 6 + j]?).getD undef) (by rw [← hlen]; exact e4) e5 (fun e he => ?_) (fun i e j c h1 h2 => ?_) (fun i e j c h1 h2 => ?_)
    · obtain ⟨x, hx, rfl⟩ := List.mem_map.1 he
      exact ⟨rfl, by simp [encIss, D.cells, D.flat]⟩
    · obtain ⟨v, hv, hr⟩ := val i j e c h1 h2
      refine ⟨.inr ⟨e2, hg, by simp⟩, ?_⟩
      have hc : cur[i * 6 + j]? = some v := by
        rw [← e7, List.getElem?_take] at hv
        split at hv
        · rw [← Array.getElem?_toList]; exact hv
        · cases hv
      rw [Nat.zero_add, hv]
      exact cell_of e3 hc
    · obtain ⟨v, hv, hr⟩ := val i j e c h1 h2
      rw [hv]; exact hr
theorem pattern_List (p : Pat) (fr n : Int) (hp : PatOk p) : ACalls E.P 17 [encPat p, .int .i64 fr, .int .i64 n] (.d (encIsss (listR p fr n))) := by
  refine ⟨⟨_, Tryd.func17, by kernel_rfl, rfl⟩, fun w S vs hG hS hs hr => ?_⟩
  obtain ⟨l⟩ := vs
  match l, hs with
  | [v0, v1, v2], _ =>
    have r0 := hr 0 _ rfl; have r1 := hr 1 _ rfl; have r2 := hr 2 _ rfl
    simp at r0 r1 r2
    obtain ⟨s1, a2, c2, rfl⟩ := pat_open r0
    cases r1 with
    | int _ _ h1 =>
      cases r2 with
      | int _ _ h2 =>
        have hpw : PW p s1 (.slice a2 p.dbl.length c2) S w := ⟨hp, hG, hS, r0⟩
        simp at h1 h2
        by_cases hn : n < 1
        · refine (callsIn_wide.1 (List_nil w fr n hn)).mono ?_
          rintro e w' ⟨rfl, hb⟩
          refine ⟨_, rfl, hb, ?_⟩
          show Rep w' _ (encIsss (listR p fr n)) _
          unfold listR; rw [if_pos hn]; exact .nil _ none 0 (by simp [maxLen])
        · by_cases hf : fr < 0
          · refine (callsIn_wide.1 (List_neg hpw fr n 0 (by omega) ⟨h2.2, h1.1, h1.2⟩ hf rfl)).mono ?_
            rintro e w' ⟨v, rfl, ho, hb⟩
            refine ⟨_, rfl, hb, ?_⟩
            show Rep w' _ (encIsss (listR p fr n)) _
            unfold listR; rw [if_neg hn, if_pos hf]
            rw [List.drop_zero] at ho
            exact rep_isss ho fun x hx => (allI_rng hp (List.mem_of_mem_take hx)).sm
          · refine (callsIn_wide.1 (List_pos hpw fr n fr.toNat (by omega) ⟨h2.2, h1.1, h1.2⟩ hf (by omega))).mono ?_
            rintro e w' ⟨v, rfl, ho, hb⟩
            refine ⟨_, rfl, hb, ?_⟩
            show Rep w' _ (encIsss (listR p fr n)) _
            unfold listR; rw [if_neg hn, if_neg hf]
            exact rep_isss ho fun x hx => (allI_rng hp (List.mem_of_mem_drop (List.mem_of_mem_take hx))).sm

end Go.Proofs.YtfaaceakmfokoaaDoor

set_option maxRecDepth 100000
set_option linter.unusedSimpArgs false
set_option linter.unusedVariables false
namespace Go.Proofs.YtfaaceakmfokoaaDoor
open Go Ab Pl
theorem ref36_Same (a b : List Iss) (hl : a.length ≤ 100000) : ACalls E.P 16 [encIsss a, encIsss b] (.d (.bool (decide (a = b)))) := by
  refine ACalls.intro E_ok Tryd.func16 rfl rfl Tryd.ntmps16 Tryd.results16 (Nat.le_of_ble_eq_true rfl) fun hok base S0 w0 => ?_
  -- region 0
  refine AWp.rseq E_ok [0, 1, 4, 5, 10, 14, 25] fun K hK => ?_
  simp [encIsss_eq, encIss_eq]
  repeat refine ⟨by first | omega | assumption | (simp only [maxLen]; omega) | (intros; omega) | decide, ?_⟩
  refine hK _ ?_
  clear hK K
  refine AWp.seq ?_
  -- region 1
  refine AWp.rseq E_ok [0, 1, 4, 5, 10, 14, 25] fun K hK => ?_
  simp [encIsss_eq, encIss_eq]
  repeat refine ⟨by first | omega | assumption | (simp only [maxLen]; omega) | (intros; omega) | decide, ?_⟩
  refine hK _ ?_
  clear hK K
  refine AWp.cond rfl (fun h10 => ?_) (fun h10 => ?_)
  · try simp at h10
    have hb : decide (a = b) = false := decide_eq_false fun h => h10 (by rw [h])
    -- region 2
    refine AWp.rseq E_ok [0, 1, 4, 5, 10, 14, 25] fun K hK => ?_
    simp [encIsss_eq, encIss_eq]
    repeat refine ⟨by first | omega | assumption | (simp only [maxLen]; omega) | (intros; omega) | decide, ?_⟩
    refine hK _ ?_
    clear hK K
    refine AWp.ret ?_
    repeat first | refine thenN ?_ | refine thenX ?_ | refine thenR ?_ | refine blockN ?_ | refine blockR ?_ | refine blockX ?_ | refine blockM rfl ?_
    simp [RetOk, RV, hb]
  · try simp at h10
    have hle := samF_eq a b (by omega)
    refine AWp.skip ?_
    repeat first | refine thenN ?_ | refine thenX ?_ | refine thenR ?_ | refine blockN ?_ | refine blockR ?_ | refine blockX ?_ | refine blockM rfl ?_
    refine AWp.seq ?_
    -- region 3
    refine AWp.rseq E_ok [0, 1, 4, 5, 10, 14, 25] fun K hK => ?_
    simp [encIsss_eq, encIss_eq]
    repeat refine ⟨by first | omega | assumption | (simp only [maxLen]; omega) | (intros; omega) | decide, ?_⟩
    refine hK _ ?_
    clear hK K
    refine AWp.block ?_
    refine AWp.range (l := a) (F := samF) (tot := samF b a) (fun k y => match y with | bs => bs = b.drop k) (fun k y => match y with | bs => [(0, T.val ((D.agg [D.int IntKind.i64 zIss.vol, D.int IntKind.i64 zIss.num, D.int IntKind.i64 zIss.last, D.int IntKind.i64 zIss.day, D.int IntKind.i64 zIss.st, D.int IntKind.i64 zIss.item]).slice (List.map encIss a))), (1, T.val ((D.agg [D.int IntKind.i64 zIss.vol, D.int IntKind.i64 zIss.num, D.int IntKind.i64 zIss.last, D.int IntKind.i64 zIss.day, D.int IntKind.i64 zIss.st, D.int IntKind.i64 zIss.item]).slice (List.map encIss b))), (5, T.val (.int .i64 k))]) (b) ?_ rfl ?_ ?_
    · simp [Weak, TW, encIsss_eq, encIss_eq]
    · first | exact trivial | (simp; omega) | simp
    rintro k bs hk hs hi
    try simp only at hi
    refine AWp.seq ?_
    -- region 4
    refine AWp.rseq E_ok [0, 1, 4, 5, 10, 14, 25] fun K hK => ?_
    simp [encIsss_eq, encIss_eq]
    repeat refine ⟨by first | omega | assumption | (simp only [maxLen]; omega) | (intros; omega) | decide, ?_⟩
    refine hK _ ?_
    clear hK K
    refine AWp.cond rfl (fun h14 => ?_) (fun h14 => ?_)
    · try simp at h14
      obtain ⟨y, hy1, hy2, hyd⟩ := at_indexG (l := b) (k := k) (by omega)
      rw [hi, hyd] at hs
      obtain ⟨x, hx, hxx, hd⟩ := at_indexG (l := a) h14
      rw [hd] at hs
      refine AWp.skip ?_
      repeat first | refine thenN ?_ | refine thenX ?_ | refine thenR ?_ | refine blockN ?_ | refine blockR ?_ | refine blockX ?_ | refine blockM rfl ?_
      refine AWp.seq ?_
      refine AWp.block ?_
      -- region 6
      refine AWp.rseqQ E_ok mixed [0, 1, 4, 5, 10, 14, 25] (by kernel_rfl) fun K hK => ?_
      simp [encIsss_eq, encIss_eq, h14, hy1, hx, hxx]
      repeat refine ⟨by first | omega | assumption | (simp only [maxLen]; omega) | (intros; omega) | decide, ?_⟩
      refine hK _ ?_
      clear hK K
      refine AWp.cond rfl (fun h25 => ?_) (fun h25 => ?_)
      · try simp at h25
        have hne : ¬ x = y := by rw [iss_eq]; omega
        rw [samF, if_neg hne] at hs
        have hb : decide (a = b) = false := by rw [← hle, ← hs]
        -- region 7
        refine AWp.rseq E_ok [0, 1, 4, 5, 10, 14, 25] fun K hK => ?_
        simp [encIsss_eq, encIss_eq, h14, hy1, hx, hxx]
        repeat refine ⟨by first | omega | assumption | (simp only [maxLen]; omega) | (intros; omega) | decide, ?_⟩
        refine hK _ ?_
        clear hK K
        refine AWp.ret ?_
        repeat first | refine thenN ?_ | refine thenX ?_ | refine thenR ?_ | refine blockN ?_ | refine blockR ?_ | refine blockX ?_ | refine blockM rfl ?_
        simp [RetOk, RV, hb]
      · try simp at h25
        have hxy : x = y := (iss_eq x y).2 (by omega)
        rw [samF, if_pos hxy] at hs
        refine AWp.skip ?_
        repeat first | refine thenN ?_ | refine thenX ?_ | refine thenR ?_ | refine blockN ?_ | refine blockR ?_ | refine blockX ?_ | refine blockM rfl ?_
        -- region 5
        refine AWp.rend E_ok [0, 1, 4, 5, 10, 14, 25] fun K hK => ?_
        simp [encIsss_eq, encIss_eq, h14, hy1, hx, hxx]
        repeat refine ⟨by first | omega | assumption | (simp only [maxLen]; omega) | (intros; omega) | decide, ?_⟩
        refine hK _ ?_
        clear hK K
        repeat first | refine thenN ?_ | refine thenX ?_ | refine thenR ?_ | refine blockN ?_ | refine blockR ?_ | refine blockX ?_ | refine blockM rfl ?_
        have hw : IntKind.i64.wrap ((k : Int) + 1) = (k : Int) + 1 := by rw [wrap_i64] <;> omega
        skip
        refine ⟨_, h14, hs, ?_, ?_⟩
        · first | exact trivial | (simp; omega) | simp
        · simp [Weak, TW, hw, encIsss_eq, encIss_eq]
    · try simp at h14
      obtain rfl : k = a.length := by omega
      simp [samF] at hs
      have hb : decide (a = b) = true := by rw [← hle]; simp [hs]
      refine AWp.exit ?_
      repeat first | refine thenN ?_ | refine thenX ?_ | refine thenR ?_ | refine blockN ?_ | refine blockR ?_ | refine blockX ?_ | refine blockM rfl ?_
      -- region 8
      refine AWp.rseq E_ok [0, 1, 4, 5, 10, 14, 25] fun K hK => ?_
      simp [encIsss_eq, encIss_eq, h14]
      repeat refine ⟨by first | omega | assumption | (simp only [maxLen]; omega) | (intros; omega) | decide, ?_⟩
      refine hK _ ?_
      clear hK K
      refine AWp.ret ?_
      repeat first | refine thenN ?_ | refine thenX ?_ | refine thenR ?_ | refine blockN ?_ | refine blockR ?_ | refine blockX ?_ | refine blockM rfl ?_
      simp [RetOk, RV, hb]
end Go.Proofs.YtfaaceakmfokoaaDoor

set_option maxRecDepth 100000
set_option linter.unusedSimpArgs false
set_option linter.unusedVariables false
namespace Go.Proofs.YtfaaceakmfokoaaDoor
open Go Ab Pl
theorem same_split (p : Pat) (a b : Nat) (hb : b ≤ 60) : ACalls E.P 16 [encIsss (listR p (a : Int) 60), .slice (encIss zIss) ((listR p (a : Int) (b : Int)).map encIss ++ (listR p ((a : Int) + (b : Int)) (60 - (b : Int))).map encIss)] (.d (.bool true)) := by
  have h := ref36_Same (listR p (a : Int) 60) (listR p (a : Int) 60) (by have := list_len p (a : Int) 60; omega)
  rw [← List.map_append, ← list_split p a b hb]
  simp at h
  exact h

end Go.Proofs.YtfaaceakmfokoaaDoor

set_option maxRecDepth 100000
set_option linter.unusedSimpArgs false
set_option linter.unusedVariables false
namespace Go.Proofs.YtfaaceakmfokoaaDoor
open Go Ab Pl
theorem ref01_Ints (a b : List Int) (hl : a.length ≤ 100000) : ACalls E.P 22 [encInts a, encInts b] (.d (.bool (decide (a = b)))) := by
  refine ACalls.intro E_ok Tryd.func22 rfl rfl Tryd.ntmps22 Tryd.results22 (Nat.le_of_ble_eq_true rfl) fun hok base S0 w0 => ?_
  -- region 0
  refine AWp.rseq E_ok [0, 1, 4, 5, 10, 14, 25] fun K hK => ?_
  simp [encInts_eq]
  repeat refine ⟨by first | omega | assumption | (simp only [maxLen]; omega) | (intros; omega) | decide, ?_⟩
  refine hK _ ?_
  clear hK K
  refine AWp.seq ?_
  -- region 1
  refine AWp.rseq E_ok [0, 1, 4, 5, 10, 14, 25] fun K hK => ?_
  simp [encInts_eq]
  repeat refine ⟨by first | omega | assumption | (simp only [maxLen]; omega) | (intros; omega) | decide, ?_⟩
  refine hK _ ?_
  clear hK K
  refine AWp.cond rfl (fun h10 => ?_) (fun h10 => ?_)
  · try simp at h10
    have hb : decide (a = b) = false := decide_eq_false fun h => h10 (by rw [h])
    -- region 2
    refine AWp.rseq E_ok [0, 1, 4, 5, 10, 14, 25] fun K hK => ?_
    simp [encInts_eq]
    repeat refine ⟨by first | omega | assumption | (simp only [maxLen]; omega) | (intros; omega) | decide, ?_⟩
    refine hK _ ?_
    clear hK K
    refine AWp.ret ?_
    repeat first | refine thenN ?_ | refine thenX ?_ | refine thenR ?_ | refine blockN ?_ | refine blockR ?_ | refine blockX ?_ | refine blockM rfl ?_
    simp [RetOk, RV, hb]
  · try simp at h10
    have hle := samZ_eq a b (by omega)
    refine AWp.skip ?_
    repeat first | refine thenN ?_ | refine thenX ?_ | refine thenR ?_ | refine blockN ?_ | refine blockR ?_ | refine blockX ?_ | refine blockM rfl ?_
    refine AWp.seq ?_
    -- region 3
    refine AWp.rseq E_ok [0, 1, 4, 5, 10, 14, 25] fun K hK => ?_
    simp [encInts_eq]
    repeat refine ⟨by first | omega | assumption | (simp only [maxLen]; omega) | (intros; omega) | decide, ?_⟩
    refine hK _ ?_
    clear hK K
    refine AWp.block ?_
    refine AWp.range (l := a) (F := samZ) (tot := samZ b a) (fun k y => match y with | bs => bs = b.drop k) (fun k y => match y with | bs => [(0, T.val ((D.int IntKind.i64 0).slice (List.map (D.int IntKind.i64) a))), (1, T.val ((D.int IntKind.i64 0).slice (List.map (D.int IntKind.i64) b))), (5, T.val (.int .i64 k))]) (b) ?_ rfl ?_ ?_
    · simp [Weak, TW, encInts_eq]
    · first | exact trivial | (simp; omega) | simp
    rintro k bs hk hs hi
    try simp only at hi
    refine AWp.seq ?_
    -- region 4
    refine AWp.rseq E_ok [0, 1, 4, 5, 10, 14, 25] fun K hK => ?_
    simp [encInts_eq]
    repeat refine ⟨by first | omega | assumption | (simp only [maxLen]; omega) | (intros; omega) | decide, ?_⟩
    refine hK _ ?_
    clear hK K
    refine AWp.cond rfl (fun h14 => ?_) (fun h14 => ?_)
    · try simp at h14
      obtain ⟨y, hy1, hy2, hyd⟩ := at_indexG (l := b) (k := k) (by omega)
      rw [hi, hyd] at hs
      obtain ⟨x, hx, hxx, hd⟩ := at_indexG (l := a) h14
      rw [hd] at hs
      refine AWp.skip ?_
      repeat first | refine thenN ?_ | refine thenX ?_ | refine thenR ?_ | refine blockN ?_ | refine blockR ?_ | refine blockX ?_ | refine blockM rfl ?_
      refine AWp.seq ?_
      refine AWp.block ?_
      -- region 6
      refine AWp.rseqQ E_ok mixed [0, 1, 4, 5, 10, 14, 25] (by kernel_rfl) fun K hK => ?_
      simp [encInts_eq, h14, hy1, hx, hxx]
      repeat refine ⟨by first | omega | assumption | (simp only [maxLen]; omega) | (intros; omega) | decide, ?_⟩
      refine hK _ ?_
      clear hK K
      refine AWp.cond rfl (fun h25 => ?_) (fun h25 => ?_)
      · try simp at h25
        rw [samZ, if_neg h25] at hs
        have hb : decide (a = b) = false := by rw [← hle, ← hs]
        -- region 7
        refine AWp.rseq E_ok [0, 1, 4, 5, 10, 14, 25] fun K hK => ?_
        simp [encInts_eq, h14, hy1, hx, hxx]
        repeat refine ⟨by first | omega | assumption | (simp only [maxLen]; omega) | (intros; omega) | decide, ?_⟩
        refine hK _ ?_
        clear hK K
        refine AWp.ret ?_
        repeat first | refine thenN ?_ | refine thenX ?_ | refine thenR ?_ | refine blockN ?_ | refine blockR ?_ | refine blockX ?_ | refine blockM rfl ?_
        simp [RetOk, RV, hb]
      · try simp at h25
        rw [samZ, if_pos h25] at hs
        refine AWp.skip ?_
        repeat first | refine thenN ?_ | refine thenX ?_ | refine thenR ?_ | refine blockN ?_ | refine blockR ?_ | refine blockX ?_ | refine blockM rfl ?_
        -- region 5
        refine AWp.rend E_ok [0, 1, 4, 5, 10, 14, 25] fun K hK => ?_
        simp [encInts_eq, h14, hy1, hx, hxx]
        repeat refine ⟨by first | omega | assumption | (simp only [maxLen]; omega) | (intros; omega) | decide, ?_⟩
        refine hK _ ?_
        clear hK K
        repeat first | refine thenN ?_ | refine thenX ?_ | refine thenR ?_ | refine blockN ?_ | refine blockR ?_ | refine blockX ?_ | refine blockM rfl ?_
        have hw : IntKind.i64.wrap ((k : Int) + 1) = (k : Int) + 1 := by rw [wrap_i64] <;> omega
        skip
        refine ⟨_, h14, hs, ?_, ?_⟩
        · first | exact trivial | (simp; omega) | simp
        · simp [Weak, TW, hw, encInts_eq]
    · try simp at h14
      obtain rfl : k = a.length := by omega
      simp [samZ] at hs
      have hb : decide (a = b) = true := by rw [← hle]; simp [hs]
      refine AWp.exit ?_
      repeat first | refine thenN ?_ | refine thenX ?_ | refine thenR ?_ | refine blockN ?_ | refine blockR ?_ | refine blockX ?_ | refine blockM rfl ?_
      -- region 8
      refine AWp.rseq E_ok [0, 1, 4, 5, 10, 14, 25] fun K hK => ?_
      simp [encInts_eq, h14]
      repeat refine ⟨by first | omega | assumption | (simp only [maxLen]; omega) | (intros; omega) | decide, ?_⟩
      refine hK _ ?_
      clear hK K
      refine AWp.ret ?_
      repeat first | refine thenN ?_ | refine thenX ?_ | refine thenR ?_ | refine blockN ?_ | refine blockR ?_ | refine blockX ?_ | refine blockM rfl ?_
      simp [RetOk, RV, hb]
end Go.Proofs.YtfaaceakmfokoaaDoor
