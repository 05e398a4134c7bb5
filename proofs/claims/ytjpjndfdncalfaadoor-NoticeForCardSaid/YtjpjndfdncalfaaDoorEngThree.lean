/-
  A layer of rules over the model: frames as data, regions by evaluation, contracts of functions. No statement of the program. Conditions: none.
-/
import Derived.Test.YtjpjndfdncalfaaDoorEngTwo
import Derived.RangeFuncNested
import Derived.RangeFuncBound
import Derived.RangeFuncLeaves
import Derived.Shelf.Abstract
import Derived.RangeFuncCalls
import Derived.Shelf.RegionOpen
import Derived.WalkKit
import Derived.OwnWalkIn
import Derived.TacticsInMore
import Derived.LoopNIn
import Derived.LoopIn
import Derived.Maps.AppendAt
import Derived.Lib.QuietBelowIn
import Derived.Tactics
import Derived.Tactics2
import Derived.Defers
import Derived.Laws.Pointers
import Derived.Laws.LoneSync
import Derived.RegionTactic
import Derived.RegionCalls
import Derived.ChangeAlike
import Derived.Laws.NewBlocks
import Derived.Handy
import Derived.Deep.WholeRow
import Derived.Laws.Cover3
import Derived.ArgAppend
import Derived.Deep.DeepCutAuto
import Derived.Deep.QuietTactic
import Derived.BigQuiet
import Derived.Lib.CountLaws
import Derived.OwnWalk
set_option linter.unusedVariables false
set_option linter.unusedSimpArgs false
/- Regions that draw their order: an operation that reads no memory may be taken first; the others are gone through, with one state for each set of operations that are done. -/
namespace Ab
open Go Go.RowKit

section
variable {base : Nat} {S0 : Nat → Nat → Prop} {w0 : World} {N : Nat} {a : Act} {w : World} {bk : Pl → Option Nat} {E : Env} {σ σ' : St} {ops : Array Oper} {K : St → Prop} {f : Nat} {listed : Array Bool}

/-- From here on, whatever is ready may be taken. -/
def coreS [Amb] (E : Env) (base : Nat) (S0 : Nat → Nat → Prop) (w0 : World) (N : Nat) (ops : Array Oper) (K : St → Prop) (f : Nat) (listed : Array Bool) (σ : St) : Prop :=
  ∀ a w, R base S0 w0 N σ.get a w → wpAny E.P .any ops (fun e a w => e = .normal ∧ Kc base S0 w0 N K a w) f listed a w
def contS [Amb] (E : Env) (base : Nat) (S0 : Nat → Nat → Prop) (w0 : World) (N : Nat) (ops : Array Oper) (K : St → Prop) (f : Nat) (listed : Array Bool) (σ : St) : Prop := coreS E base S0 w0 N ops K f listed σ

theorem contS.now [Amb] {f' : Nat} {l' : Array Bool} (h : coreS E base S0 w0 N ops K f' l' σ) (hf : f' = f) (hl : l' = listed) : contS E base S0 w0 N ops K f listed σ := by subst hf hl; exact h
theorem contS.mk [Amb] {l' : Array Bool} (hw : Weak σ σ') (h : coreS E base S0 w0 N ops K f l' σ') (hl : l' = listed) : contS E base S0 w0 N ops K f listed σ := by subst hl; exact fun a w hR => h a w (hR.weak hw)
theorem coreS.cut [Amb] (f' : Nat) (l' : Array Bool) (σ' : St) (h : coreS E base S0 w0 N ops K f' l' σ') (h2 : coreS E base S0 w0 N ops K f' l' σ' → coreS E base S0 w0 N ops K f listed σ) : coreS E base S0 w0 N ops K f listed σ := h2 h
theorem contS.cut [Amb] (f' : Nat) (l' : Array Bool) (σ' : St) (h : coreS E base S0 w0 N ops K f' l' σ') (h2 : coreS E base S0 w0 N ops K f' l' σ' → contS E base S0 w0 N ops K f listed σ) : contS E base S0 w0 N ops K f listed σ := h2 h
theorem coreS.nil [Amb] (hr : Region.ready .any ops listed = []) (h : K σ) : coreS E base S0 w0 N ops K 0 listed σ := fun a w hR => ⟨hr, rfl, σ, h, hR⟩
theorem contS.nil [Amb] (hr : Region.ready .any ops listed = []) (h : K σ) : contS E base S0 w0 N ops K 0 listed σ := fun a w hR => ⟨hr, rfl, σ, h, hR⟩

def anyS [Amb] (E : Env) (base : Nat) (S0 : Nat → Nat → Prop) (w0 : World) (N : Nat) (ops : Array Oper) (K : St → Prop) (f : Nat) (listed : Array Bool) (σ : St) : List Nat → Prop
  | [] => True
  | i :: l => (∃ o, ops[i]? = some o ∧ stp E N ops o σ (contS E base S0 w0 N ops K f (listed.setIfInBounds i true))) ∧ anyS E base S0 w0 N ops K f listed σ l
theorem anyS_mem [Amb] : ∀ {l : List Nat}, anyS E base S0 w0 N ops K f listed σ l → ∀ i ∈ l, ∃ o, ops[i]? = some o ∧ stp E N ops o σ (contS E base S0 w0 N ops K f (listed.setIfInBounds i true))
  | [], _, i, hi => by simp at hi
  | j :: l, h, i, hi => by
    rcases List.mem_cons.1 hi with rfl | hi
    · exact h.1
    · exact anyS_mem h.2 i hi
theorem anyS.nil [Amb] : anyS E base S0 w0 N ops K f listed σ [] := trivial
theorem anyS.cons [Amb] {i : Nat} {l : List Nat} {o : Oper} (ho : ops[i]? = some o) (h : stp E N ops o σ (contS E base S0 w0 N ops K f (listed.setIfInBounds i true))) (h2 : anyS E base S0 w0 N ops K f listed σ l) : anyS E base S0 w0 N ops K f listed σ (i :: l) := ⟨⟨o, ho, h⟩, h2⟩

theorem coreS.step [Amb] (hE : E.Ok) (l : List Nat) (hr : Region.ready .any ops listed = l) (hne : l ≠ []) (h : anyS E base S0 w0 N ops K f listed σ l) : coreS E base S0 w0 N ops K (f + 1) listed σ := by
  rintro a w ⟨bk, hR⟩
  refine ⟨fun h0 => absurd (hr.symm.trans h0) hne, fun i hi => ?_⟩
  rw [hr] at hi
  obtain ⟨o, ho, hst⟩ := anyS_mem h i hi
  have hst := stp_ok hE hR hst (fun e a w => e = .normal ∧ Kc base S0 w0 N K a w)
  unfold wpOp
  simp only [ho]
  split at hst
  · rename_i hw
    rw [if_pos hw]
    exact .inl (Oper.wp_mono (fun a' w' ⟨σ1, h1, h3⟩ => h1 a' w' h3) hst)
  · rename_i hw
    rw [if_neg hw]
    obtain ⟨σ1, h1, h3⟩ := hst
    exact h1 _ _ h3

theorem stpV_yields [Amb] (hE : E.Ok) (h : RB base S0 w0 N σ.get a w bk) {o : Oper} (hd : dryOp o.op = true) (hs : stpV E N ops o σ K) : ∃ v, Yields E.P ops o v a ∧ Kc base S0 w0 N K (a.put o.dst v) w := by
  unfold stpV at hs
  split at hs
  · exact hs.elim
  rename_i gs hg
  split at hs
  · rename_i c l t hv
    obtain ⟨hc, hK⟩ := hs
    have hf : RB base S0 w0 N (frzS σ l).get a w bk := by rw [frzS_get]; exact h.frzs l
    have hp := valOp_plain hv
    have hgd := guard_ok h hg
    cases hga : gs.all id with
    | true =>
      rw [hga] at hgd
      obtain ⟨v, h1, h2, _⟩ := valOp_okB hE h hga hv (hc hga)
      refine ⟨v, .inl ⟨hgd, fun w' => h1 w' (fun hh => by rw [hd] at hh; cases hh)⟩, fin_val hf (Below.refl _ _) hp (fun d => RT.optw (fun _ => ?_) (fun hh => by rw [hga] at hh; cases hh)) hK⟩
      rw [← frzS_get] at h2
      exact RT.put hf (Below.refl _ _) (optw_plain hp) hp h2
    | false =>
      rw [hga] at hgd
      exact ⟨undef, .inr ⟨hgd, rfl⟩, fin_skip hf hp hga hK⟩
  · exact hs.elim

theorem coreS.dry [Amb] (hE : E.Ok) (hs : Region.noSelect ops = true) (i : Nat) {o : Oper} (ho : ops[i]? = some o) (hd : dryOp o.op = true) (hf : Region.free .any ops listed i = true) (hr : (Region.ready .any ops listed).contains i = true)
    (h : stpV E N ops o σ (contS E base S0 w0 N ops K f (listed.setIfInBounds i true))) : coreS E base S0 w0 N ops K (f + 1) listed σ := by
  rintro a w ⟨bk, hR⟩
  obtain ⟨v, hy, σ1, h1, h2⟩ := stpV_yields hE hR hd h
  exact wpAny_take ho hs hf hr (fun c a' w' hh => by cases hh.1) hy (h1 _ _ h2)

theorem AWp.regionS [Amb] (hE : E.Ok) (hm : E.P.follows .mixedOrders = true) (V : List Nat) {id : Nat} {Q : Exit → St → Prop} (h : coreS E base S0 w0 N ops (fun σ' => Q .normal (clean V (settle V N σ' V))) ops.size (Array.replicate ops.size false) σ) :
    AWp E base S0 w0 N (.region id ops true) σ Q := by
  intro a w ⟨bk, hR⟩
  have hd : Below w.heap.size w { w with drawn := w.drawn + 1 } := ⟨rfl, rfl, rfl, Nat.le_refl _, fun _ _ => rfl⟩
  refine wp_mono (wp_region_any hm (h a _ ⟨bk, hR.world hd⟩)) ?_
  rintro e a' w' ⟨rfl, σ', h1, h2⟩
  exact ⟨_, h1, clean_ok V (settle_ok V V h2)⟩

theorem AWp.rseqS [Amb] (hE : E.Ok) (hm : E.P.follows .mixedOrders = true) (V : List Nat) {id n : Nat} {l : Array Bool} {y : Code} {Q : Exit → St → Prop} (hn : ops.size = n) (hl : Array.replicate n false = l)
    (h : ∀ K : St → Prop, (∀ σ', AWp E base S0 w0 N y σ' Q → K σ') → contS E base S0 w0 N ops (Ab.done V N K) n l σ) : AWp E base S0 w0 N (.seq (.region id ops true) y) σ Q := by
  subst hn hl
  exact AWp.seq (AWp.regionS hE hm V (h _ fun _ h => h))
theorem AWp.rendS [Amb] (hE : E.Ok) (hm : E.P.follows .mixedOrders = true) (V : List Nat) {id n : Nat} {l : Array Bool} {Q : Exit → St → Prop} (hn : ops.size = n) (hl : Array.replicate n false = l)
    (h : ∀ K : St → Prop, (∀ σ', Q .normal σ' → K σ') → contS E base S0 w0 N ops (Ab.done V N K) n l σ) : AWp E base S0 w0 N (.region id ops true) σ Q := by
  subst hn hl
  exact AWp.regionS hE hm V (h _ fun _ h => h)
end
end Ab

/- A range over a function that keeps a box of its own. -/
namespace Ab
open Go Go.RowKit Go.Shelf
set_option linter.unusedVariables false

/-- What an iterator may do between two rounds: new blocks; its own box, block B. -/
structure Turn (B : Nat) (A A' : World) : Prop where
  os : A'.os = A.os
  tape : A'.tape = A.tape
  output : A'.output = A.output
  size : A.heap.size ≤ A'.heap.size
  block : ∀ k, k < A.heap.size → k ≠ B → A'.heap[k]? = A.heap[k]?

theorem Turn.refl (B : Nat) (A : World) : Turn B A A := ⟨rfl, rfl, rfl, Nat.le_refl _, fun _ _ _ => rfl⟩
theorem Turn.trans {B : Nat} {X Y Z : World} (h : Turn B X Y) (k : Turn B Y Z) : Turn B X Z :=
  ⟨k.os.trans h.os, k.tape.trans h.tape, k.output.trans h.output, Nat.le_trans h.size k.size, fun i hi hb => (k.block i (Nat.lt_of_lt_of_le hi h.size) hb).trans (h.block i hi hb)⟩
theorem Turn.of_below {B : Nat} {A A' : World} (h : Below A.heap.size A A') : Turn B A A' := ⟨h.os, h.tape, h.output, h.size, fun k hk _ => h.block k hk⟩
theorem Turn.below {B n : Nat} {A A' : World} (h : Turn B A A') (hn : n ≤ A.heap.size) (hB : n ≤ B) : Below n A A' :=
  ⟨h.os, h.tape, h.output, h.size, fun k hk => h.block k (by omega) (by omega)⟩
theorem Turn.alloc {B : Nat} {A : World} (o : Obj) : Turn B A (A.alloc o) := Turn.of_below ((Below.refl _ A).alloc (Nat.le_refl _) o)

/-- What a round keeps: whatever lay below n₀, and the blocks that are named. -/
structure Keep (n₀ : Nat) (K : Nat → Prop) (A A' : World) : Prop where
  below : Below n₀ A A'
  same : ∀ k, K k → k < A.heap.size → A'.heap[k]? = A.heap[k]?

theorem Keep.refl {n₀ : Nat} {K : Nat → Prop} (A : World) : Keep n₀ K A A := ⟨Below.refl _ _, fun _ _ _ => rfl⟩
theorem Keep.trans {n₀ : Nat} {K : Nat → Prop} {X Y Z : World} (h : Keep n₀ K X Y) (k : Keep n₀ K Y Z) : Keep n₀ K X Z :=
  ⟨h.below.trans k.below, fun i hi hl => (k.same i hi (Nat.lt_of_lt_of_le hl h.below.size)).trans (h.same i hi hl)⟩

/-- the blocks that the law names: the iterator's captured box; the rounds' deferred calls, the loop's record, the iterator's own box -/
def KX (n Bp : Nat) (k : Nat) : Prop := k = Bp ∨ (n ≤ k ∧ k ≤ n + 2)

/-- An iterator that gives the list xs: its own box is the first block that it lays. -/
def SeqX {α : Type} (P : Program) (g : Nat) (lb : Array Value) (encs : α → Array Value) (n₀ Bp : Nat) (xs : List α) (w : World) : Prop :=
  ∀ (l : Nat) (J Jx : List α → World → Prop) (W : World), Below w.heap.size w W → W.heap.size = w.heap.size + 2 →
    (∀ s A A', J s A → Turn (w.heap.size + 2) A A' → J s A') → (∀ s A A', Jx s A → Turn (w.heap.size + 2) A A' → Jx s A') →
    (∀ pre x W1, J pre W1 → w.heap.size + 2 < W1.heap.size → pre ++ [x] <+: xs → YieldAt Fence.wide 1 P l (encs x) W1 fun e W' =>
      (e = .returned (.bool true) ∧ J (pre ++ [x]) W' ∧ Keep n₀ (fun k => k = Bp ∨ k = w.heap.size + 2) W1 W') ∨ (e = .returned (.bool false) ∧ Jx (pre ++ [x]) W')) →
    J [] W →
    CallsIn Fence.wide 2 P g (#[.func (.yield l) #[] #[]] ++ lb) W fun e W' => (∃ v, e = .returned v) ∧ (J xs W' ∨ ∃ pre, pre <+: xs ∧ Jx pre W')

def postX {α : Type} (n₀ : Nat) (K : Nat → Prop) (I : List α → World → Prop) (Ix : Code → List α → World → Prop) (xs : List α) (W : World) : Exit → Act → World → Prop
  | .normal, _, W' => Keep n₀ K W W' ∧ I xs W'
  | .ret, _, W' => Keep n₀ K W W' ∧ Ix .ret xs W'
  | .exit id, _, W' => Keep n₀ K W W' ∧ Ix (.exit id) xs W'
  | .goto t, _, W' => Keep n₀ K W W' ∧ Ix (.goto t) xs W'
  | .panic _, _, _ => False
  | .outgrown, _, _ => False

theorem keep_put {n₀ Bp l : Nat} {W : World} {o o' : Obj} (hn : n₀ ≤ l) (hp : Bp < l) (h : W.heap[l]? = some o) : Keep n₀ (fun k => k = Bp ∨ k = l + 1) W (W.putObj l o') :=
  ⟨(Below.refl n₀ W).grown (grownBy_putObj' W l o') (by have := (Array.getElem?_eq_some_iff.1 h).1; omega) (fun k e => by cases e; exact hn), fun k hk _ => World.putObj_heap_other (by rcases hk with rfl | rfl <;> omega)⟩

/-- **A range over a function whose iterator keeps a box of its own.** -/
theorem range_X {α : Type} {P : Program} {g : Operand} {ps : Array Tmp} {assign body : Code} {Q : Exit → Act → World → Prop} {a : Act} {w : World} {gf : Nat} {lb : Array Value}
    (hg : a.eval g = .func (.func gf) #[] lb) (eg : ∀ args w, (callFunc gf args).run P w = .ok (.enter gf args) w)
    {encs : α → Array Value} (hps : ∀ x, (encs x).size = ps.size) {xs : List α} {n₀ Bp : Nat} (hn : n₀ ≤ w.heap.size) (hBp : Bp < w.heap.size) (hseq : SeqX P gf lb encs n₀ Bp xs w)
    (I : List α → World → Prop) (Ix : Code → List α → World → Prop) (Ax : α → Act → World → Prop)
    (hI : ∀ s A A', I s A → Turn (w.heap.size + 2) A A' → I s A') (hIx : ∀ c s A A', Ix c s A → Turn (w.heap.size + 2) A A' → Ix c s A')
    (hIp : ∀ s A o, I s A → I s (A.putObj (w.heap.size + 1) o)) (hIxp : ∀ c s A o, Ix c s A → Ix c s (A.putObj (w.heap.size + 1) o)) (hAxp : ∀ x a' A o, Ax x a' A → Ax x a' (A.putObj (w.heap.size + 1) o))
    (h0 : I [] w)
    (hassign : ∀ (pre : List α) (x : α) (W : World) (K : Act → World → Prop), I pre W → w.heap.size + 2 < W.heap.size → (∀ a' W', Keep n₀ (KX w.heap.size Bp) W W' → I pre W' → Ax x a' W' → K a' W') →
      assign.wpIn (Fence.wide.inRound (w.heap.size + 1)) 1 P (Exit.then K (fun _ _ _ => False)) { tmps := (ps.zip (encs x)).foldl (fun t (p, v) => t.setIfInBounds p v) a.tmps, defers := [] } W)
    (hbody : ∀ (pre : List α) (x : α) (a' : Act) (W : World), I pre W → Ax x a' W → w.heap.size + 2 < W.heap.size → pre ++ [x] <+: xs →
      body.wpIn (Fence.wide.inRound (w.heap.size + 1)) 1 P (postX n₀ (KX w.heap.size Bp) I Ix (pre ++ [x]) W) a' W)
    (hdone : ∀ (W : World), I xs W → W.heap[w.heap.size]? = some (.deferred (some [])) → Q .normal { a with defers := { target := .collected w.heap.size, args := #[] } :: a.defers } W)
    (hstop : ∀ (c : Code) (pre : List α) (W : World), pre <+: xs → Ix c pre W → W.heap[w.heap.size]? = some (.deferred (some [])) →
      c.wpIn Fence.wide 3 P Q { a with defers := { target := .collected w.heap.size, args := #[] } :: a.defers } W) :
    (Code.rangeFunc g ps assign body).wpIn Fence.wide 3 P Q a w := by
  refine wpIn_rangeFunc ?_
  intro fn hfn
  obtain ⟨rc, hrc⟩ : ∃ rc : LoopState → Option Code → Loop, rc = fun st pe => { state := st, pending := pe, fn, tmps := a.tmps, params := ps, assign, body, defers := w.heap.size } := ⟨_, rfl⟩
  obtain ⟨W1, hW1⟩ : ∃ W1, (w.alloc (.deferred (some []))).alloc (.loop (rc .ready none)) = W1 := ⟨_, rfl⟩
  have hL1 : W1.heap[w.heap.size + 1]? = some (.loop (rc .ready none)) := by
    rw [← hW1]; have := World.alloc_heap_new (w.alloc (.deferred (some []))) (.loop (rc .ready none)); rwa [World.size_alloc] at this
  have hK1 : W1.heap[w.heap.size]? = some (.deferred (some [])) := by
    rw [← hW1]; exact (Below.heap_alloc _ _ _ (by simp)).trans (World.alloc_heap_new w _)
  have hI1 : I [] W1 := by rw [← hW1]; exact hI _ _ _ (hI _ _ _ h0 (Turn.alloc _)) (Turn.alloc _)
  have hb1 : Below w.heap.size w W1 := by
    rw [← hW1]; exact ((Below.refl _ w).alloc (Nat.le_refl _) _).alloc (by simp) _
  have hs1 : W1.heap.size = w.heap.size + 2 := by rw [← hW1]; simp
  refine ⟨w.heap.size + 1, [{ target := .collected w.heap.size, args := #[] }], W1, { target := .fn (.func gf) lb, args := #[.func (.yield (w.heap.size + 1)) #[] #[]] }, W1, gf,
    #[.func (.yield (w.heap.size + 1)) #[] #[]] ++ lb, W1, ?_, ?_, ?_, ?_, fun _ => by decide, ?_⟩
  · rw [← hW1, hrc]; exact run_enterLoop_outer _ _ _ _ _
  · simp only [resolve, hg]
    simp [go_sem]
  · intro f' _; trivial
  · simp [invoke, go_sem, eg]
  · have two : ∀ {A A' : World} {k : Nat}, Turn (w.heap.size + 2) A A' → k ≤ w.heap.size + 1 → ∀ {o : Obj}, A.heap[k]? = some o → A'.heap[k]? = some o :=
      fun h hk o ho => (h.block _ (Array.getElem?_eq_some_iff.1 ho).1 (by omega)).trans ho
    refine (hseq (w.heap.size + 1)
      (fun pre W => I pre W ∧ W.heap[w.heap.size + 1]? = some (.loop (rc .ready none)) ∧ W.heap[w.heap.size]? = some (.deferred (some [])))
      (fun pre W => ∃ c, Ix c pre W ∧ W.heap[w.heap.size + 1]? = some (.loop (rc .done (some c))) ∧ W.heap[w.heap.size]? = some (.deferred (some [])))
      W1 hb1 hs1
      (fun s A B hs hg' => ⟨hI s A B hs.1 hg', two hg' (by omega) hs.2.1, two hg' (by omega) hs.2.2⟩)
      (fun s A B hs hg' => by
        obtain ⟨c, hc, hl, hk⟩ := hs
        exact ⟨c, hIx c s A B hc hg', two hg' (by omega) hl, two hg' (by omega) hk⟩)
      ?_ ⟨hI1, hL1, hK1⟩).mono ?_
    · rintro pre x W ⟨hi, hl, hk⟩ hsz hpre
      have hlt : w.heap.size + 1 < W.heap.size := (Array.getElem?_eq_some_iff.1 hl).1
      have hy := run_yield (P := P) (args := encs x) hl (by rw [hrc]; exact hps x)
      rw [hrc] at hy
      refine ⟨fn, _, assign, body, hy, roundIn_of_wpIn hfn (hassign pre x W _ hi hsz fun a1 Wa hka hia hax => ?_)⟩
      have hla : Wa.heap[w.heap.size + 1]? = some (.loop (rc .ready none)) := (hka.same _ (.inr ⟨by omega, by omega⟩) hlt).trans hl
      have hkk : Wa.heap[w.heap.size]? = some (.deferred (some [])) := (hka.same _ (.inr ⟨by omega, by omega⟩) (by omega)).trans hk
      have hlt2 : w.heap.size + 1 < Wa.heap.size := (Array.getElem?_eq_some_iff.1 hla).1
      have hsa : w.heap.size + 2 < Wa.heap.size := Nat.lt_of_lt_of_le hsz hka.below.size
      refine ⟨_, run_beginRound hla (by rw [hrc]), ?_⟩
      have hl2 : (Wa.putObj (w.heap.size + 1) (.loop { rc .ready none with state := .busy })).heap[w.heap.size + 1]? = some (.loop { rc .ready none with state := .busy }) := World.putObj_heap_same hlt2
      have hk2 : (Wa.putObj (w.heap.size + 1) (.loop { rc .ready none with state := .busy })).heap[w.heap.size]? = some (.deferred (some [])) := (World.putObj_heap_other (by omega)).trans hkk
      have hkp2 : Keep n₀ (fun k => k = Bp ∨ k = w.heap.size + 2) Wa (Wa.putObj (w.heap.size + 1) (.loop { rc .ready none with state := .busy })) := keep_put (by omega) (by omega) hla
      have hs2 : w.heap.size + 2 < (Wa.putObj (w.heap.size + 1) (.loop { rc .ready none with state := .busy })).heap.size := Nat.lt_of_lt_of_le hsa hkp2.below.size
      have weak : ∀ {A B : World}, Keep n₀ (KX w.heap.size Bp) A B → Keep n₀ (fun k => k = Bp ∨ k = w.heap.size + 2) A B := fun h =>
        ⟨h.below, fun k hk => h.same k (by rcases hk with rfl | rfl; exact .inl rfl; exact .inr ⟨by omega, by omega⟩)⟩
      refine wpIn_mono (hbody pre x a1 _ (hIp _ _ _ hia) (hAxp _ _ _ _ hax) hs2 hpre) ?_
      have fin : ∀ (jump : Option Code) (W3 : World), Keep n₀ (KX w.heap.size Bp) (Wa.putObj (w.heap.size + 1) (.loop { rc .ready none with state := .busy })) W3 →
          (Instr.endRound (w.heap.size + 1) jump).run P W3 = .ok (.bool jump.isNone) (W3.putObj (w.heap.size + 1) (.loop (rc (if jump.isNone then .ready else .done) jump))) ∧
          W3.heap[w.heap.size + 1]? = some (.loop { rc .ready none with state := .busy }) ∧
          (W3.putObj (w.heap.size + 1) (.loop (rc (if jump.isNone then .ready else .done) jump))).heap[w.heap.size + 1]? = some (.loop (rc (if jump.isNone then .ready else .done) jump)) ∧
          (W3.putObj (w.heap.size + 1) (.loop (rc (if jump.isNone then .ready else .done) jump))).heap[w.heap.size]? = some (.deferred (some [])) := fun jump W3 hk3 => by
        have hl3 := (hk3.same _ (.inr ⟨by omega, by omega⟩) (by omega)).trans hl2
        have hkk3 := (hk3.same _ (.inr ⟨by omega, by omega⟩) (by omega)).trans hk2
        have := run_endRound (P := P) jump hl3
        rw [hrc] at this ⊢
        exact ⟨this, by rw [hrc] at hl3; exact hl3, World.putObj_heap_same (Array.getElem?_eq_some_iff.1 hl3).1, (World.putObj_heap_other (by omega)).trans hkk3⟩
      rintro e a3 W3 hp
      cases e with
      | normal =>
        obtain ⟨hk3, hi3⟩ := hp
        obtain ⟨hr, hl3, hl4, hk4⟩ := fin none W3 hk3
        exact ⟨_, _, hr, .inl ⟨rfl, ⟨hIp _ _ _ hi3, hl4, hk4⟩, (((weak hka).trans hkp2).trans (weak hk3)).trans (keep_put (by omega) (by omega) hl3)⟩⟩
      | ret =>
        obtain ⟨hk3, hi3⟩ := hp
        obtain ⟨hr, hl3, hl4, hk4⟩ := fin (some .ret) W3 hk3
        exact ⟨_, _, hr, .inr ⟨rfl, .ret, hIxp _ _ _ _ hi3, hl4, hk4⟩⟩
      | exit id =>
        obtain ⟨hk3, hi3⟩ := hp
        obtain ⟨hr, hl3, hl4, hk4⟩ := fin (some (.exit id)) W3 hk3
        exact ⟨_, _, hr, .inr ⟨rfl, .exit id, hIxp _ _ _ _ hi3, hl4, hk4⟩⟩
      | goto t =>
        obtain ⟨hk3, hi3⟩ := hp
        obtain ⟨hr, hl3, hl4, hk4⟩ := fin (some (.goto t)) W3 hk3
        exact ⟨_, _, hr, .inr ⟨rfl, .goto t, hIxp _ _ _ _ hi3, hl4, hk4⟩⟩
      | panic ch => exact hp.elim
      | outgrown => exact hp.elim
    · rintro e W2 ⟨⟨v, rfl⟩, (⟨hi, hl, hk⟩ | ⟨pre, hSp, c, hi, hl, hk⟩)⟩
      · exact ⟨none, _, by have := run_endLoop (P := P) hl (by rw [hrc]; simp); rw [hrc] at this; exact this, hdone _ (hIp _ _ _ hi) ((World.putObj_heap_other (by omega)).trans hk)⟩
      · exact ⟨some c, _, by have := run_endLoop (P := P) hl (by rw [hrc]; simp); rw [hrc] at this; exact this, hstop c pre _ hSp (hIxp _ _ _ _ hi) ((World.putObj_heap_other (by omega)).trans hk)⟩
end Ab

/- The kit's words for deferred calls and locks, beside the engine. -/
namespace Ab
end Ab

/- A string that becomes bytes which the call writes: a row of its own. -/
namespace Ab
open Go Go.RowKit

def bytesL (s : List UInt8) : List D := s.map fun b => .int .u8 (b.toNat : Int)

def cvB [Amb] (N : Nat) (dst : Option Nat) (σ : St) (K : St → Prop) (c : Prop) : Option (List Bool) → Bool → T → Prop
  | some [], true, .val (.str s) => c ∧ s.length ≤ 16777216 ∧ newO N dst σ (.own true (.int .u8 0) (bytesL s)) K
  | _, _, _ => False
@[simp] theorem cvB_str [Amb] {N : Nat} {dst : Option Nat} {σ : St} {K : St → Prop} {c : Prop} {s : List UInt8} : cvB N dst σ K c (some []) true (.val (.str s)) = (c ∧ s.length ≤ 16777216 ∧ newO N dst σ (.own true (.int .u8 0) (bytesL s)) K) := rfl

/-- As 'stp'; a string that becomes bytes is a row of its own. -/
def stpB [Amb] (E : Env) (N : Nat) (ops : Array Oper) (o : Oper) (σ : St) (K : St → Prop) : Prop :=
  match o.op with
  | .convert src dst x => cvB N o.dst σ K (rd σ.get [] x).1 (guardL ops σ o) (E.bytesOf src dst) (rd σ.get [] x).2
  | _ => stp E N ops o σ K
section
variable [Amb] {E : Env} {N : Nat} {ops : Array Oper} {σ : St} {K : St → Prop} {d : Option Nat} {ty : TypeId} {pos : String} {after : Array Edge} {guard : Option (Nat × Bool)} {x y : Operand} {src dst : TypeId}
@[simp] theorem stpB_move : stpB E N ops { dst := d, op := .move x, type := ty, pos := pos, after := after, guard := guard } σ K = stp E N ops { dst := d, op := .move x, type := ty, pos := pos, after := after, guard := guard } σ K := rfl
@[simp] theorem stpB_assign : stpB E N ops { dst := d, op := .assign x, type := ty, pos := pos, after := after, guard := guard } σ K = stp E N ops { dst := d, op := .assign x, type := ty, pos := pos, after := after, guard := guard } σ K := rfl
@[simp] theorem stpB_conv : stpB E N ops { dst := d, op := .convert src dst x, type := ty, pos := pos, after := after, guard := guard } σ K = cvB N d σ K (rd σ.get [] x).1 (guardL ops σ { dst := d, op := .convert src dst x, type := ty, pos := pos, after := after, guard := guard }) (E.bytesOf src dst) (rd σ.get [] x).2 := rfl
end

def walkB [Amb] (E : Env) (N : Nat) (ops : Array Oper) : List Oper → St → (St → Prop) → Prop
  | [], σ, K => K σ
  | o :: os, σ, K => stpB E N ops o σ fun σ' => walkB E N ops os σ' K
def laterB [Amb] (E : Env) (N : Nat) (ops : Array Oper) (os : List Oper) (K : St → Prop) : St → Prop := fun σ' => walkB E N ops os σ' K

section
variable {base : Nat} {S0 : Nat → Nat → Prop} {w0 : World} {N : Nat} {a : Act} {w : World} {bk : Pl → Option Nat} {E : Env} {P : Program} {σ : St} {g : Nat → T}

@[simp] theorem walkB_cons [Amb] {ops : Array Oper} {o : Oper} {os : List Oper} {K : St → Prop} : walkB E N ops (o :: os) σ K = stpB E N ops o σ (laterB E N ops os K) := rfl
@[simp] theorem walkB_nil [Amb] {ops : Array Oper} {K : St → Prop} : walkB E N ops [] σ K = K σ := rfl
@[simp] theorem laterB_eq [Amb] {ops : Array Oper} {os : List Oper} {K : St → Prop} : laterB E N ops os K σ = walkB E N ops os σ K := rfl

/-- A new row, wherever it comes from, becomes the row of slot d. -/
theorem RB.newRowW [Amb] (h : RB base S0 w0 N g a w bk) {d : Nat} (hd : d < N) (hno : ∀ s', s' ≠ d → d ∉ (g s').refs) {m : Bool} {z : D} {es : List D} {arr : Array Value} {ty : TypeId} {cap : Nat} {w' : World}
    (hbel : Below w.heap.size w w') (hws : w'.heap.size = w.heap.size + 1) (hhc : HC w' w.heap.size arr ty) (hsz : arr.size = cap * z.cells.length)
    (hcap : es.length ≤ cap) (hm : cap ≤ maxLen) (h1 : ∀ e ∈ es, e.cells.length = z.cells.length ∧ ∀ c ∈ e.cells, c.flat = true)
    (h2 : ∀ i e j c, es[i]? = some e → e.cells[j]? = some c → Rep w (stab base S0 g bk w.heap.size) c (arr.getD (i * z.cells.length + j) undef)) :
    ∃ bk', RB base S0 w0 N (upd g d (.own m z es)) (a.put (some d) (.slice (some (at' w.heap.size 0)) es.length cap)) w' bk' := by
  have hst : ∀ b o, stab base S0 g bk w.heap.size b o → stab base S0 (upd g d (.own m z es)) (setb (clr bk d) (d, 0) (some w.heap.size)) w'.heap.size b o :=
    fun b o hs => stab_new h _ (fun b hb => by simp at hb; omega) hbel.size hs
  refine ⟨_, h.putOwner hd hbel hno (ob := some w.heap.size) (fun b hb => by simp at hb; subst hb; omega) ?_ ?_ ?_⟩
  · show Hdr _ (setb _ _ _ (d, 0)) _ _ _
    simp only [setb, if_true]
    exact .inr ⟨_, cap, arr, ty, rfl, rfl, hhc, hsz, hcap, hm⟩
  · intro i m' z' es' ho b hb
    cases i with
    | succ i => simp [T.ownAt] at ho
    | zero =>
      simp only [T.ownAt, Option.some.injEq, Prod.mk.injEq] at ho; obtain ⟨rfl, rfl, rfl⟩ := ho
      simp only [setb, if_true, Option.some.injEq] at hb; subst hb
      refine ⟨h1, arr, ty, hhc, by rw [hsz]; exact Nat.mul_le_mul_right _ hcap, fun i e j c he hj => (h2 i e j c he hj).mono (fun _ _ hs => below_cell hbel (stab_lt h hs)) hst⟩
  · intro cs hb; cases hb

theorem bytesL_length (s : List UInt8) : (bytesL s).length = s.length := by simp [bytesL]

theorem step_bytesO [Amb] (hE : E.Ok) (h : RB base S0 w0 N σ.get a w bk) {ops : Array Oper} {o : Oper} (hg : guardL ops σ o = some []) {src dst : TypeId} {x : Operand} (ho : o.op = .convert src dst x) (hb : E.bytesOf src dst = true) {s : List UInt8}
    (hx : (rd σ.get [] x).2 = .val (.str s)) (hc : (rd σ.get [] x).1) (hl : s.length ≤ 16777216) {K : St → Prop} (hK : newO N o.dst σ (.own true (.int .u8 0) (bytesL s)) K) : Step E.P base S0 w0 N ops o K a w := by
  refine step_now h hg fun Q => ?_
  obtain ⟨e, h1, h2, h3⟩ := Env.bytesOf_ok hE hb
  obtain ⟨r1, _⟩ := rd_ok h nil_all x hc
  rw [hx] at r1
  generalize hv : a.eval x = v at r1
  cases r1 with | str _ hs =>
  have hr : (execOp a.eval o).run E.P w = .ok (.value (.slice (some (at' w.heap.size 0)) s.length (grownCap w s.length 0 e))) (Go.Lib.bytesWorld w e ⟨s.toArray⟩) := by
    have := Go.Lib.run_convert_string_bytes (P := E.P) w src dst e ⟨s.toArray⟩ h1 h2 h3
    simp only [execOp, ho, hv, Sem.run_bind, this, Result.andThen_ok, Sem.run_pure]
    rfl
  have hw : Below w.heap.size w (Go.Lib.bytesWorld w e ⟨s.toArray⟩) := ⟨rfl, rfl, rfl, by rw [Go.Lib.bytesWorld_size]; omega, fun k hk => Go.Lib.bytesWorld_at_old w e _ k hk⟩
  have hge := grownCap_ge w s.length 0 e
  have hcm := grownCap_le_maxLen w s.length 0 e hs
  refine wp_value hr ?_
  have hcz : (Go.Lib.bytesCells w e ⟨s.toArray⟩).size = grownCap w s.length 0 e := by
    simp only [Go.Lib.bytesCells, Array.size_append, Array.size_map, Array.size_replicate]
    have : (⟨s.toArray⟩ : ByteArray).size = s.length := by show s.toArray.size = _; simp
    rw [this]
    have : s.toArray.size = s.length := by simp
    omega
  cases hod : o.dst with
  | none => rw [hod] at hK; exact hK.elim
  | some d =>
    rw [hod] at hK
    obtain ⟨k1, k2, k3⟩ := hK
    obtain ⟨bk', hb'⟩ := h.newRowW (m := true) (z := .int .u8 0) (es := bytesL s) (cap := grownCap w s.length 0 e) (arr := Go.Lib.bytesCells w e ⟨s.toArray⟩) (ty := e) k1 (norefs_ok k2) hw (Go.Lib.bytesWorld_size w e _)
      (.inr (Go.Lib.bytesWorld_at_new w e _)) (by rw [hcz]; simp [D.cells]) (by rw [bytesL_length]; exact hge) hcm (fun x hx => by
        obtain ⟨b, _, rfl⟩ := List.mem_map.1 hx
        exact ⟨rfl, fun c hc => by simp [D.cells] at hc; subst hc; rfl⟩) (fun i x j c hi hj => by
        unfold bytesL at hi
        rw [List.getElem?_map] at hi
        cases hsi : s[i]? with
        | none => rw [hsi] at hi; cases hi
        | some b =>
          rw [hsi] at hi; simp at hi; subst hi
          have hj0 : j = 0 := by
            have := (List.getElem?_eq_some_iff.1 hj).1
            simp [D.cells] at this; exact this
          subst hj0
          have hc0 : c = .int .u8 (b.toNat : Int) := by simpa [D.cells] using hj.symm
          subst hc0
          have hi' := (List.getElem?_eq_some_iff.1 hsi).1
          have hb8 := UInt8.toNat_lt b
          have : (Go.Lib.bytesCells w e ⟨s.toArray⟩).getD (i * (D.int IntKind.u8 0).cells.length + 0) undef = .int .u8 (b.toNat : Int) := by
            have : i * (D.int IntKind.u8 0).cells.length + 0 = i := by simp [D.cells]
            rw [this, Array.getD_eq_getD_getElem?]
            simp only [Go.Lib.bytesCells]
            rw [Array.getElem?_append_left (by simpa using hi')]
            simp [hsi]
          rw [this]
          exact .int _ _ ⟨by rw [show IntKind.u8.min = 0 from by decide]; omega, by rw [show IntKind.u8.max = 255 from by decide]; omega⟩)
    rw [bytesL_length] at hb'
    exact ⟨_, k3, by rw [get_cons]; exact ⟨bk', hb'⟩⟩

theorem stpB_ok [Amb] (hE : E.Ok) (h : RB base S0 w0 N σ.get a w bk) {ops : Array Oper} {o : Oper} {K : St → Prop} (hs : stpB E N ops o σ K) : Step E.P base S0 w0 N ops o K a w := by
  unfold stpB at hs
  split at hs
  · rename_i src dst x ho
    generalize hg : guardL ops σ o = g at hs
    generalize hb : E.bytesOf src dst = b at hs
    generalize hx : (rd σ.get [] x).2 = t at hs
    unfold cvB at hs
    split at hs
    · exact step_bytesO hE h hg ho hb hx hs.1 hs.2.1 hs.2.2
    · exact hs.elim
  · exact stp_ok hE h hs

theorem walkB_ok [Amb] (hE : E.Ok) {ops : Array Oper} {Q : Exit → Act → World → Prop} {K : St → Prop} (hQ : ∀ a w, Kc base S0 w0 N K a w → Q .normal a w) : ∀ (l : List Oper) {σ : St} {a : Act} {w : World}, R base S0 w0 N σ.get a w →
    walkB E N ops l σ K → wpList E.P ops Q l a w
  | [], σ, a, w, h, hs => hQ a w ⟨σ, hs, h⟩
  | o :: l, σ, a, w, ⟨bk, h⟩, hs => by
    refine wpList_step fun K' hK' => ?_
    have hst := stpB_ok hE h (K := fun σ' => walkB E N ops l σ' K) hs Q
    split at hst
    · rename_i hw
      rw [if_pos hw]
      exact Oper.wp_mono (fun a' w' ⟨σ', h1, h2⟩ => hK' a' w' (walkB_ok hE hQ l h2 h1)) hst
    · rename_i hw
      rw [if_neg hw]
      obtain ⟨σ', h1, h2⟩ := hst
      exact hK' _ _ (walkB_ok hE hQ l h2 h1)

theorem AWp.regionO [Amb] (hE : E.Ok) (V : List Nat) {id : Nat} {ops : Array Oper} {Q : Exit → St → Prop} (h : walkB E N ops ops.toList σ fun σ' => Q .normal (clean V (settle V N σ' V))) : AWp E base S0 w0 N (.region id ops false) σ Q :=
  fun _ _ hR => wp_region_list (walkB_ok hE (fun _ _ ⟨_, hq, hr⟩ => ⟨_, hq, clean_ok V (settle_ok V V hr)⟩) _ hR h)

theorem AWp.rseqO [Amb] (hE : E.Ok) (V : List Nat) {id : Nat} {ops : Array Oper} {y : Code} {Q : Exit → St → Prop}
    (h : ∀ K : St → Prop, (∀ σ', AWp E base S0 w0 N y σ' Q → K σ') → walkB E N ops ops.toList σ (done V N K)) : AWp E base S0 w0 N (.seq (.region id ops false) y) σ Q :=
  AWp.seq (AWp.regionO hE V (h _ fun _ h => h))

theorem AWp.rendO [Amb] (hE : E.Ok) (V : List Nat) {id : Nat} {ops : Array Oper} {Q : Exit → St → Prop}
    (h : ∀ K : St → Prop, (∀ σ', Q .normal σ' → K σ') → walkB E N ops ops.toList σ (done V N K)) : AWp E base S0 w0 N (.region id ops false) σ Q :=
  AWp.regionO hE V (h _ fun _ h => h)
end
theorem bytesL_get {u : List UInt8} {i : Nat} {c : UInt8} (h : u[i]? = some c) : (bytesL u)[i]? = some (.int .u8 (c.toNat : Int)) := by simp [bytesL, h]
theorem bytesL_all (u : List UInt8) : (bytesL u).all isU8 = true := by simp [bytesL, isU8]
theorem bytesL_back (u : List UInt8) : (bytesL u).map byteOf = u := by
  simp only [bytesL, List.map_map]
  conv => rhs; rw [← List.map_id u]
  refine List.map_congr_left fun b _ => ?_
  simp [byteOf]
theorem bytesL_set (u : List UInt8) (i : Nat) (c : UInt8) : (bytesL u).set i (.int .u8 (c.toNat : Int)) = bytesL (u.set i c) := by simp [bytesL, List.map_set]
end Ab

/- A row that is lent: a function that writes into the row which its first argument heads. -/
namespace Ab
open Go Go.RowKit

/-- Data that hold wherever they are. -/
def freeD : D → Bool
  | .int .. => true
  | .bool _ => true
  | .str _ => true
  | .fn _ [] => true
  | .fn _ (_ :: _) => false
  | .slice .. => false
  | .agg _ => false
  | .ref _ => false
  | .lit _ => false
def freeE (e : D) : Bool := e.cells.all freeD
def NoS (_ _ : Nat) : Prop := False

theorem Rep.free {w w' : World} {S S' : Nat → Nat → Prop} {d : D} {v : Value} (h : Rep w S d v) (hd : freeD d = true) : Rep w' S' d v := by
  cases h with
  | int k n h => exact .int k n h
  | bool b => exact .bool b
  | str s h => exact .str s h
  | fn f caps vs hl h =>
    cases caps with
    | nil => exact .fn f [] vs hl (fun i c hi => by simp at hi)
    | cons c cs => simp [freeD] at hd
  | _ => simp [freeD] at hd

theorem Cont.free {w : World} {S S' : Nat → Nat → Prop} {b sz : Nat} {es : List D} (h : Cont w S b sz es) (hf : es.all freeE = true) : Cont w S' b sz es := by
  obtain ⟨h1, arr, ty, h2, h3, h4⟩ := h
  refine ⟨h1, arr, ty, h2, h3, fun i e j c he hj => (h4 i e j c he hj).free ?_⟩
  rw [List.all_eq_true] at hf
  have := hf e (List.mem_of_getElem? he)
  unfold freeE at this
  rw [List.all_eq_true] at this
  exact this c (List.mem_of_getElem? hj)

/-- The world ahead of block n. -/
def trunc (w : World) (n : Nat) : World := { w with heap := w.heap.extract 0 n }
theorem trunc_size {w : World} {n : Nat} (h : n ≤ w.heap.size) : (trunc w n).heap.size = n := by simp [trunc]; omega
theorem trunc_get {w : World} {n k : Nat} (h : k < n) : (trunc w n).heap[k]? = w.heap[k]? := by
  simp only [trunc, Array.getElem?_extract]
  by_cases hk : k < w.heap.size
  · rw [if_pos (by omega)]; simp
  · rw [if_neg (by omega), Array.getElem?_eq_none (by omega)]
theorem trunc_below {w : World} {n : Nat} (h : n ≤ w.heap.size) : Below n (trunc w n) w := ⟨rfl, rfl, rfl, by rw [trunc_size h]; exact h, fun k hk => (trunc_get hk).symm⟩

/-- The head of a row that is lent. -/
def HdrX (w : World) (ob : Option Nat) (sz n : Nat) (v : Value) : Prop :=
  (ob = none ∧ n = 0 ∧ ∃ a, v = .slice a 0 0) ∨
  ∃ b cap arr ty, ob = some b ∧ v = .slice (some (at' b 0)) n cap ∧ HC w b arr ty ∧ arr.size = cap * sz ∧ n ≤ cap ∧ cap ≤ maxLen ∧ 0 < cap

/-- THE CONTRACT OF A FUNCTION THAT WRITES INTO A ROW: called with the head of a row that holds es, and these data, it leaves es' there, and turns nothing ahead of the row's block. -/
def MCalls [Amb] (P : Program) (f : FuncId) (z : D) (es : List D) (args : List D) (es' : List D) : Prop :=
  FnOk P f ∧ ∀ (w : World) (X : Nat) (ob : Option Nat) (v : Value) (vs : Array Value) (S : Nat → Nat → Prop), X ≤ w.heap.size → Amb.G (trunc w X) S → (∀ b o, S b o → b < X) →
    HdrX w ob z.cells.length es.length v → (∀ b, ob = some b → b = X ∧ Cont w NoS b z.cells.length es) → vs.size = args.length → (∀ i d, args[i]? = some d → Rep w NoS d (vs.getD i undef)) →
    Calls P f (#[v] ++ vs) w fun e w' => e = .returned (.tuple #[]) ∧ Below X (trunc w X) w' ∧ HdrX w' ob z.cells.length es'.length v ∧ ∀ b, ob = some b → Cont w' NoS b z.cells.length es'

/-- The frame as such a call begins: the row belongs to a slot that no operation names. -/
def entryL (N : Nat) (v : Value) (z : D) (es : List D) (args : List D) : St := (N, .lent v true z es) :: (0, .alias (N, 0)) :: entryFrom 1 args

section
variable {base : Nat} {S0 : Nat → Nat → Prop} {w0 : World} {N : Nat} {a : Act} {w : World} {bk : Pl → Option Nat} {E : Env} {P : Program} {σ : St} {g : Nat → T}

theorem HdrX.hdr {w : World} {ob : Option Nat} {sz n : Nat} {v : Value} (h : HdrX w ob sz n v) : Hdr w ob sz n v := by
  rcases h with ⟨_, h1, h2⟩ | ⟨b, cap, arr, ty, h1, h2, h3, h4, h5, h6, _⟩
  · exact .inl ⟨h1, h2⟩
  · exact .inr ⟨b, cap, arr, ty, h1, h2, h3, h4, h5, h6⟩

theorem entryL_get [Amb] {v : Value} {z : D} {es args : List D} (hN : 0 < N) (s : Nat) : (entryL N v z es args).get s = if s = N then .lent v true z es else if s = 0 then .alias (N, 0) else (match args[s - 1]? with | some d => .val d | none => .junk) := by
  show St.get ((N, _) :: (0, _) :: entryFrom 1 args) s = _
  simp only [St.get, entryFrom_get]
  by_cases h1 : N = s
  · rw [if_pos h1, if_pos h1.symm]
  · rw [if_neg h1, if_neg (Ne.symm h1)]
    by_cases h2 : 0 = s
    · rw [if_pos h2, if_pos h2.symm]
    · rw [if_neg h2, if_neg (Ne.symm h2), if_pos (by omega)]
      rfl

theorem entryL_RB [Amb] {args : List D} {v : Value} {z : D} {es : List D} {vs : Array Value} {S : Nat → Nat → Prop} {w : World} {X : Nat} {ob : Option Nat} (hX : X ≤ w.heap.size) (hG : Amb.G (trunc w X) S)
    (hv : HdrX w ob z.cells.length es.length v) (hc : ∀ b, ob = some b → b = X ∧ Cont w NoS b z.cells.length es) (hl : vs.size = args.length) (hr : ∀ i d, args[i]? = some d → Rep w NoS d (vs.getD i undef)) (hn : args.length + 1 ≤ N) :
    RB X S (trunc w X) N (entryL N v z es args).get { tmps := (#[v] ++ vs) ++ Array.replicate (N - (#[v] ++ vs).size) undef, defers := [] } w (fun p => if p = (N, 0) then ob else none) where
  amb := hG
  defers := rfl
  size := by simp; omega
  hb := (trunc_size hX).symm
  below := trunc_below hX
  rng := fun p b hb => by
    split at hb
    · obtain ⟨h1, _, arr, ty, h2, _⟩ := hc b hb
      subst h1
      refine ⟨Nat.le_refl _, ?_⟩
      rcases h2 with h2 | h2 <;> exact (Array.getElem?_eq_some_iff.1 h2).1
    · cases hb
  inj := fun p q b hp hq => by
    split at hp
    · split at hq
      · rename_i e1 e2; rw [e1, e2]
      · cases hq
    · cases hp
  slots := fun s => by
    rw [entryL_get (by omega)]
    by_cases h1 : s = N
    · rw [if_pos h1]
      show Hdr w (if (s, 0) = (N, 0) then ob else none) _ _ _
      rw [if_pos (by rw [h1])]; exact hv.hdr
    · rw [if_neg h1]
      by_cases h2 : s = 0
      · rw [if_pos h2]
        subst h2
        intro m z' es' ho
        simp only [entryL_get (N := N) (by omega), if_true, T.ownAt, Option.some.injEq, Prod.mk.injEq] at ho
        obtain ⟨_, rfl, rfl⟩ := ho
        show Hdr w (if (N, 0) = (N, 0) then ob else none) _ _ _
        rw [if_pos rfl]
        have : ((#[v] ++ vs) ++ Array.replicate (N - (#[v] ++ vs).size) undef).getD 0 undef = v := by
          rw [Array.getD_eq_getD_getElem?, Array.getElem?_append_left (by simp; omega), Array.getElem?_append_left (by simp)]; rfl
        show Hdr w ob _ _ (((#[v] ++ vs) ++ Array.replicate (N - (#[v] ++ vs).size) undef).getD 0 undef)
        rw [this]; exact hv.hdr
      · rw [if_neg h2]
        cases ha : args[s - 1]? with
        | none => trivial
        | some d =>
          have h3 := (List.getElem?_eq_some_iff.1 ha).1
          have h4 : ((#[v] ++ vs) ++ Array.replicate (N - (#[v] ++ vs).size) undef).getD s undef = vs.getD (s - 1) undef := by
            rw [Array.getD_eq_getD_getElem?, Array.getElem?_append_left (by simp; omega), Array.getElem?_append_right (by simp; omega), Array.getD_eq_getD_getElem?]; rfl
          rw [h4]
          exact (hr _ d ha).mono (fun _ _ _ => rfl) (fun b o hs => hs.elim)
  own := fun p m z' es' ho b hb => by
    split at hb
    · rename_i hp
      subst hp
      simp only [entryL_get (N := N) (by omega), if_true, T.ownAt, Option.some.injEq, Prod.mk.injEq] at ho
      obtain ⟨_, rfl, rfl⟩ := ho
      exact (hc b hb).2.mono rfl (fun _ _ _ => rfl) (fun _ _ hs => hs.elim)
    · cases hb
  box := fun s cs hb => by
    rw [entryL_get (by omega)] at hb
    split at hb
    · cases hb
    · split at hb
      · cases hb
      · split at hb <;> cases hb

/-- A FUNCTION THAT WRITES INTO A ROW MEETS ITS CONTRACT. -/
theorem MCalls.intro [Amb] (hE : E.Ok) {f : FuncId} {fn : Func} {c : Code} {z : D} {es args es' : List D} (hf : E.P.funcs[f]? = some fn) (hname : (fn.name == "runtime.NumGoroutine") = false) (hb : fn.body = some c) (hN : fn.ntmps = N) (hrs : fn.results = #[]) (hn : args.length + 1 ≤ N)
    (hfr : es'.all freeE = true)
    (h : (∀ d ∈ args, d.Ok) → ∀ base S0 w0 v, AWp E base S0 w0 N c (entryL N v z es args) fun e σ => (e = .ret ∨ e = .normal) ∧ σ.get N = .lent v true z es') : MCalls E.P f z es args es' := by
  refine ⟨⟨fn, hf, hname, by rw [hb]; rfl⟩, fun w X ob v vs S hX hG hS hv hc hl hr => ?_⟩
  refine calls_of_wp hf hb ?_
  rw [hN]
  have hok : ∀ d ∈ args, d.Ok := fun d hd => by
    obtain ⟨i, hi⟩ := List.getElem?_of_mem hd
    exact ⟨w, NoS, _, hr i d hi⟩
  refine wp_mono (h hok X S _ v _ w ⟨_, entryL_RB hX hG hv hc hl hr hn⟩) fun e a' w' ⟨σ', ⟨he, hret⟩, bk', hR⟩ => ?_
  have main : a'.defers = [] ∧ ∃ u, (results fn a'.tmps).run E.P w' = .ok u w' ∧ Ending.returned u = .returned (.tuple #[]) ∧ Below X (trunc w X) w' ∧ HdrX w' ob z.cells.length es'.length v ∧ ∀ b, ob = some b → Cont w' NoS b z.cells.length es' := by
    refine ⟨hR.defers, .tuple #[], ?_, rfl, hR.below, ?_⟩
    · have e : results fn a'.tmps = (do let vs ← fn.results.mapM (resV a'.tmps); pure (if h : vs.size = 1 then vs[0] else .tuple vs)) := rfl
      rw [e, hrs]
      simp
    · have h0 := hR.slots N
      rw [hret] at h0
      have h0 : Hdr w' (bk' (N, 0)) z.cells.length es'.length v := h0
      rcases hv with ⟨rfl, h1, a1, rfl⟩ | ⟨b, cap, arr, ty, rfl, rfl, h3, h4, h5, h6, h7⟩
      · refine ⟨.inl ⟨rfl, ?_, a1, rfl⟩, fun b hb => by cases hb⟩
        rcases h0 with ⟨h2, _⟩ | ⟨b, cap, arr, ty, k1, k2, _⟩
        · exact h2
        · simp only [Value.slice.injEq] at k2; exact k2.2.1.symm
      · rcases h0 with ⟨h2, a2, h8⟩ | ⟨b', cap', arr', ty', k1, k2, k3, k4, k5, k6⟩
        · simp only [Value.slice.injEq] at h8; omega
        · simp only [Value.slice.injEq, Option.some.injEq, at', Addr.mk.injEq] at k2
          obtain ⟨⟨rfl, _⟩, k7, rfl⟩ := k2
          refine ⟨.inr ⟨b, cap, arr', ty', rfl, by rw [k7], k3, k4, k5, k6, h7⟩, fun b2 hb2 => ?_⟩
          simp only [Option.some.injEq] at hb2; subst hb2
          exact (hR.own (N, 0) true z es' (by show (σ'.get N).ownAt 0 = _; rw [hret]; rfl) b k1).free hfr
  rcases he with rfl | rfl
  · exact main
  · exact main

/-- What stays of a slot when a row is lent. -/
def keepL (p : Pl) : T → T
  | .val d => bif freeD d then .val d else .junk
  | .alias q => bif q.1 == p.1 && q.2 == p.2 then .alias q else .junk
  | .junk => .junk
  | .nils => .junk
  | .opt .. => .junk
  | .box _ => .junk
  | .own .. => .junk
  | .tup _ => .junk
  | .ptr .. => .junk
  | .optr .. => .junk
  | .lent .. => .junk
def lendR (p : Pl) : St → St
  | [] => []
  | (k, t) :: σ => (k, keepL p t) :: lendR p σ
def lendS (s : Nat) (es' : List D) (σ : St) : St := (s, (σ.get s).setOwn 0 es') :: lendR (s, 0) σ

theorem lendR_get (p : Pl) (σ : St) (s : Nat) : (lendR p σ).get s = keepL p (σ.get s) := by
  induction σ with
  | nil => rfl
  | cons q σ ih =>
    obtain ⟨k, t⟩ := q
    show St.get ((k, keepL p t) :: lendR p σ) s = keepL p (St.get ((k, t) :: σ) s)
    simp only [St.get]
    split
    · rfl
    · exact ih

theorem keepL_cases (p : Pl) (t : T) : keepL p t = .junk ∨ (∃ d, keepL p t = .val d) ∨ ∃ q, keepL p t = .alias q := by
  cases t with
  | val d =>
    simp only [keepL]
    cases freeD d
    · exact .inl rfl
    · exact .inr (.inl ⟨d, rfl⟩)
  | alias q =>
    simp only [keepL]
    cases (q.1 == p.1 && q.2 == p.2)
    · exact .inl rfl
    · exact .inr (.inr ⟨q, rfl⟩)
  | _ => exact .inl rfl
theorem keepL_own (p : Pl) (t : T) (i : Nat) : (keepL p t).ownAt i = none := by
  rcases keepL_cases p t with h | ⟨d, h⟩ | ⟨q, h⟩ <;> rw [h] <;> rfl
theorem keepL_box (p : Pl) (t : T) : (keepL p t).box? = none := by
  rcases keepL_cases p t with h | ⟨d, h⟩ | ⟨q, h⟩ <;> rw [h] <;> rfl

/-- The row of slot s has been written by the function that it was lent to. -/
theorem RB.lent [Amb] (h : RB base S0 w0 N σ.get a w bk) {s : Nat} {z : D} {es es' : List D} {w' : World} (hown : (σ.get s).ownAt 0 = some (true, z, es)) (hb : Below base w0 w')
    (hsz : ∀ b, bk (s, 0) = some b → b < w'.heap.size) (hall : ∀ u, Hdr w (bk (s, 0)) z.cells.length es.length u → Hdr w' (bk (s, 0)) z.cells.length es'.length u)
    (hc : ∀ b, bk (s, 0) = some b → Cont w' NoS b z.cells.length es') : RB base S0 w0 N (lendS s es' σ).get a w' (fun q => if q = (s, 0) then bk q else none) := by
  have hget : ∀ k, (lendS s es' σ).get k = if s = k then (σ.get s).setOwn 0 es' else keepL (s, 0) (σ.get k) := fun k => by
    show St.get ((s, _) :: lendR (s, 0) σ) k = _
    simp only [St.get, lendR_get]
  have hoth : ∀ q m z1 es1, ((lendS s es' σ).get q.1).ownAt q.2 = some (m, z1, es1) → q = (s, 0) ∧ m = true ∧ z1 = z ∧ es1 = es' := fun q m z1 es1 ho => by
    rw [hget] at ho
    split at ho
    · rename_i hs
      by_cases hq : q.2 = 0
      · rw [hq, setOwn_same hown] at ho
        simp only [Option.some.injEq, Prod.mk.injEq] at ho
        exact ⟨Prod.ext hs.symm hq, ho.1.symm, ho.2.1.symm, ho.2.2.symm⟩
      · rw [setOwn_other hq] at ho
        cases hg : σ.get s with
        | own m0 z0 es0 => rw [hg] at ho; cases hq2 : q.2 with
          | zero => exact absurd hq2 hq
          | succ i => rw [hq2] at ho; simp [T.ownAt] at ho
        | lent u m0 z0 es0 => rw [hg] at ho; cases hq2 : q.2 with
          | zero => exact absurd hq2 hq
          | succ i => rw [hq2] at ho; simp [T.ownAt] at ho
        | _ => rw [hg] at hown; simp [T.ownAt] at hown
    · rw [keepL_own] at ho; cases ho
  refine ⟨h.defers, h.size, h.hb, hb, fun p b hp => ?_, fun p q b hp hq => ?_, fun k => ?_, fun p m z1 es1 ho b hp => ?_, fun k cs hbx => ?_, h.amb⟩
  · split at hp
    · rename_i e; subst e; exact ⟨(h.rng _ _ hp).1, hsz b hp⟩
    · cases hp
  · split at hp
    · split at hq
      · rename_i e1 e2; rw [e1, e2]
      · cases hq
    · cases hp
  · have h0 := h.slots k
    rw [hget]
    by_cases hk : s = k
    · subst hk
      rw [if_pos rfl]
      cases hg : σ.get s with
      | own m0 z0 es0 =>
        rw [hg] at hown h0
        simp only [T.ownAt, Option.some.injEq, Prod.mk.injEq] at hown; obtain ⟨rfl, rfl, rfl⟩ := hown
        show Hdr w' (if (s, 0) = (s, 0) then bk (s, 0) else none) _ _ _
        rw [if_pos rfl]; exact hall _ h0
      | lent u m0 z0 es0 =>
        rw [hg] at hown h0
        simp only [T.ownAt, Option.some.injEq, Prod.mk.injEq] at hown; obtain ⟨rfl, rfl, rfl⟩ := hown
        show Hdr w' (if (s, 0) = (s, 0) then bk (s, 0) else none) _ _ _
        rw [if_pos rfl]; exact hall _ h0
      | _ => rw [hg] at hown; simp [T.ownAt] at hown
    · rw [if_neg hk]
      cases hg : σ.get k with
      | val d =>
        rw [hg] at h0
        simp only [keepL]
        cases hd : freeD d with
        | true => exact Rep.free h0 hd
        | false => trivial
      | alias q =>
        rw [hg] at h0
        simp only [keepL]
        cases hd : (q.1 == s && q.2 == 0) with
        | true =>
          simp only [Bool.and_eq_true, beq_iff_eq] at hd
          have hq : q = (s, 0) := Prod.ext hd.1 hd.2
          subst hq
          intro m z1 es1 ho
          obtain ⟨_, rfl, rfl, rfl⟩ := hoth _ _ _ _ ho
          show Hdr w' (if (s, 0) = (s, 0) then bk (s, 0) else none) _ _ _
          rw [if_pos rfl]
          exact hall _ (h0 true z1 es (by exact hown))
        | false => trivial
      | _ => trivial
  · obtain ⟨rfl, rfl, rfl, rfl⟩ := hoth _ _ _ _ ho
    rw [if_pos rfl] at hp
    exact (hc b hp).mono rfl (fun _ _ _ => rfl) (fun _ _ hs => hs.elim)
  · rw [hget] at hbx
    split at hbx
    · cases hg : σ.get s with
      | own m0 z0 es0 => rw [hg] at hbx; cases hbx
      | lent u m0 z0 es0 => rw [hg] at hbx; cases hbx
      | _ => rw [hg] at hown; simp [T.ownAt] at hown
    · rw [keepL_box] at hbx; cases hbx

/-- The call of a function that writes into the row of slot s. -/
theorem lend_call [Amb] (h : RB base S0 w0 N σ.get a w bk) {s : Nat} {z : D} {es es' ds : List D} {v : Value} {vs : Array Value} {f : FuncId} (hown : (σ.get s).ownAt 0 = some (true, z, es)) (hfr : es.all freeE = true)
    (hv : Hdr w (bk (s, 0)) z.cells.length es.length v) (hl : vs.size = ds.length) (hr : ∀ i d, ds[i]? = some d → Rep w NoS d (vs.getD i undef)) (hm : MCalls P f z es ds es') :
    Calls P f (#[v] ++ vs) w fun e w' => e = .returned (.tuple #[]) ∧ ∃ bk', RB base S0 w0 N (lendS s es' σ).get a w' bk' := by
  have hG : ∀ X, base ≤ X → X ≤ w.heap.size → Amb.G (trunc w X) (fun b o => b < base ∧ S0 b o) := fun X h1 h2 => by
    have hbel : Below base w0 (trunc w X) := by
      refine ⟨h.below.os, h.below.tape, h.below.output, ?_, fun k hk => ?_⟩
      · rw [trunc_size h2, ← h.hb]; exact h1
      · rw [trunc_get (by omega)]; exact h.below.block k hk
    exact Amb.mono h.amb (h.hb ▸ hbel) (fun b o hb hs => ⟨h.hb ▸ hb, hs⟩)
  have hB : ∀ X w', base ≤ X → X ≤ w.heap.size → Below X (trunc w X) w' → Below base w0 w' := fun X w' h1 h2 hw => by
    refine ⟨hw.os.trans h.below.os, hw.tape.trans h.below.tape, hw.output.trans h.below.output, ?_, fun k hk => ?_⟩
    · have := hw.size; rw [trunc_size h2] at this; rw [← h.hb]; omega
    · rw [hw.block k (by omega), trunc_get (by omega)]; exact h.below.block k hk
  have hcont : ∀ b, bk (s, 0) = some b → Cont w NoS b z.cells.length es := fun b hb => (h.own (s, 0) true z es hown b hb).free hfr
  by_cases hz : es.length = 0 ∧ ∃ a0, v = .slice a0 0 0
  · -- nothing is lent
    obtain ⟨h0, a0, rfl⟩ := hz
    refine (hm.2 w w.heap.size none _ vs _ (Nat.le_refl _) (hG _ h.le (Nat.le_refl _)) (fun b o hs => by have := h.le; omega) (.inl ⟨rfl, h0, a0, rfl⟩) (fun b hb => by cases hb) hl hr).mono fun e w' ⟨he, hw, hx, _⟩ => ⟨he, ?_⟩
    have hes' : es'.length = 0 := by rcases hx with ⟨_, h1, _⟩ | ⟨b, _, _, _, h1, _⟩ <;> first | exact h1 | cases h1
    have hblk : ∀ k, k < w.heap.size → w'.heap[k]? = w.heap[k]? := fun k hk => (hw.block k hk).trans (trunc_get hk)
    have hsz := hw.size
    rw [trunc_size (Nat.le_refl _)] at hsz
    have hn : es = [] := List.eq_nil_of_length_eq_zero h0
    have hn' : es' = [] := List.eq_nil_of_length_eq_zero hes'
    subst hn hn'
    refine ⟨_, h.lent hown (hB _ _ h.le (Nat.le_refl _) hw) (fun b hb => by have := (h.rng _ _ hb).2; omega) (fun u hu => hu.same fun b hb => .of_eq (hblk b (h.rng _ _ hb).2)) (fun b hb => ?_)⟩
    exact (hcont b hb).mono (hblk b (h.rng _ _ hb).2) (fun _ _ hs => hs.elim) (fun _ _ hs => hs.elim)
  · obtain ⟨b, cap, arr, ty, k1, rfl, k3, k4, k5, k6⟩ : ∃ b cap arr ty, bk (s, 0) = some b ∧ v = .slice (some (at' b 0)) es.length cap ∧ HC w b arr ty ∧ arr.size = cap * z.cells.length ∧ es.length ≤ cap ∧ cap ≤ maxLen := by
      rcases hv with ⟨h1, h2⟩ | h1
      · exact absurd ⟨h1, h2⟩ hz
      · exact h1
    have hcap : 0 < cap := by
      rcases Nat.eq_zero_or_pos cap with h1 | h1
      · exfalso; subst h1
        exact hz ⟨by omega, _, by rw [show es.length = 0 by omega]⟩
      · exact h1
    have hr1 := h.rng _ _ k1
    refine (hm.2 w b (some b) _ vs _ (by omega) (hG b hr1.1 (by omega)) (fun b' o hs => by omega) (.inr ⟨b, cap, arr, ty, rfl, rfl, k3, k4, k5, k6, hcap⟩) (fun b' hb' => by
      simp only [Option.some.injEq] at hb'; subst hb'; exact ⟨rfl, hcont b k1⟩) hl hr).mono fun e w' ⟨he, hw, hx, hcc⟩ => ⟨he, ?_⟩
    obtain ⟨arr', ty', m3, m4, m5, m6⟩ : ∃ arr' ty', HC w' b arr' ty' ∧ arr'.size = cap * z.cells.length ∧ es'.length = es.length ∧ es'.length ≤ cap := by
      rcases hx with ⟨h1, _⟩ | ⟨b', cap', arr', ty', h1, h2, h3, h4, h5, _⟩
      · cases h1
      · simp only [Option.some.injEq] at h1; subst h1
        simp only [Value.slice.injEq] at h2
        obtain ⟨_, h7, rfl⟩ := h2
        exact ⟨arr', ty', h3, h4, h7.symm, h5⟩
    refine ⟨_, h.lent hown (hB b w' hr1.1 (by omega) hw) (fun b' hb' => ?_) (fun u hu => ?_) (fun b' hb' => ?_)⟩
    · rw [k1] at hb'; simp only [Option.some.injEq] at hb'; subst hb'
      rcases m3 with m3 | m3 <;> exact (Array.getElem?_eq_some_iff.1 m3).1
    · rcases hu with ⟨h1, h2⟩ | ⟨b2, cap2, arr2, ty2, j1, rfl, j3, j4, j5, j6⟩
      · exact .inl ⟨by omega, h2⟩
      · rw [k1] at j1; simp only [Option.some.injEq] at j1; subst j1
        obtain ⟨rfl, rfl⟩ := k3.det j3
        exact .inr ⟨b, cap2, arr', ty', k1, by rw [m5], m3, by omega, by omega, j6⟩
    · rw [k1] at hb'; simp only [Option.some.injEq] at hb'; subst hb'
      exact hcc b rfl

theorem lend_step [Amb] (h : RB base S0 w0 N σ.get a w bk) {ops : Array Oper} {o : Oper} (hg : guardL ops σ o = some []) {f : Operand} {xs : Array Operand} {ats : Array TypeId} {x0 : Operand} {xr : List Operand}
    (ho : o.op = .call { callee := .value f, args := xs, argTypes := ats }) (hxs : xs.toList = x0 :: xr) {fid : FuncId} {s : Nat} {ds : List D} {z : D} {es es' : List D} {K : St → Prop}
    (hf : (rd σ.get [] f).2 = .val (.fn fid [])) (hfc : (rd σ.get [] f).1) (hx : (rd σ.get [] x0).2 = .alias (s, 0)) (hxc : (rd σ.get [] x0).1)
    (hds : ∀ (i : Nat) d, ds[i]? = some d → ∃ x, xr[i]? = some x ∧ (rd σ.get [] x).1 ∧ (rd σ.get [] x).2 = .val d ∧ freeD d = true) (hlen : ds.length = xr.length)
    (hown : (σ.get s).ownAt 0 = some (true, z, es)) (hfr : es.all freeE = true) (hm : MCalls E.P fid z es ds es')
    (hK : match o.dst with | some d => d < N ∧ K ((d, .junk) :: lendS s es' σ) | none => K (lendS s es' σ)) : Step E.P base S0 w0 N ops o K a w := by
  refine step_now h hg fun Q => ?_
  obtain ⟨r0, _⟩ := rd_ok h nil_all x0 hxc
  rw [hx] at r0
  have hv : Hdr w (bk (s, 0)) z.cells.length es.length (a.eval x0) := r0 true z es hown
  obtain ⟨r1, _⟩ := rd_ok h nil_all f hfc
  rw [hf] at r1
  obtain ⟨fn, fn1, fn2, fn3⟩ := hm.1
  have hcall := lend_call (vs := (xr.map a.eval).toArray) h hown hfr hv (by simp [hlen]) (fun i d hi => by
    obtain ⟨x, h1, h2, h3, h4⟩ := hds i d hi
    obtain ⟨r2, _⟩ := rd_ok h nil_all x h2
    rw [h3] at r2
    have h5 : ((xr.map a.eval).toArray).getD i undef = a.eval x := by
      rw [Array.getD_eq_getD_getElem?, List.getElem?_toArray, List.getElem?_map, h1]; rfl
    rw [h5]
    exact Rep.free r2 h4) hm
  have hargs : xs.map a.eval = #[a.eval x0] ++ (xr.map a.eval).toArray := by
    have : xs = (x0 :: xr).toArray := by rw [← hxs]
    rw [this]; simp
  generalize hvf : a.eval f = vf at r1
  have r1' : Rep w (stab base S0 σ.get bk w.heap.size) (.fn fid []) vf := r1
  cases r1' with
  | fn _ _ vcs hl hcap =>
    have hvc : vcs = #[] := by cases vcs; simp_all
    have hrun : (execOp a.eval o).run E.P w = .ok (.enter fid (xs.map a.eval)) w := by
      have hb : fn.body ≠ none := by intro hbb; rw [hbb] at fn3; cases fn3
      have hn : fn.name ≠ "runtime.NumGoroutine" := by simpa using fn2
      simp [execOp, ho, resolve, hvf, Deferred.ofValue, invoke, callFunc, fn1, hn, hb, hvc]
    unfold Oper.wp
    rw [hrun, hargs]
    refine hcall.mono fun e w' ⟨he, bk', hR⟩ => ?_
    subst he
    show Kc base S0 w0 N K (a.put o.dst (.tuple #[])) w'
    cases hd : o.dst with
    | none => rw [hd] at hK; exact ⟨_, hK, bk', hR⟩
    | some d =>
      rw [hd] at hK
      refine ⟨_, hK.2, clr bk' d, ?_⟩
      rw [get_cons]
      have hp := hR.put (d := d) (w' := w') (t := .junk) (v := .tuple #[]) hK.1 (Below.refl w'.heap.size w') rfl trivial
      exact hp

def freeT : T → Option D
  | .val d => bif freeD d then some d else none
  | .junk => none
  | .nils => none
  | .opt .. => none
  | .box _ => none
  | .own .. => none
  | .tup _ => none
  | .alias _ => none
  | .ptr .. => none
  | .optr .. => none
  | .lent .. => none
def joinF (c : Prop) : Option D → Option (Prop × List D) → Option (Prop × List D)
  | some d, some (c', ds) => some (c ∧ c', d :: ds)
  | _, _ => none
def frees [Amb] (σ : St) : List Operand → Option (Prop × List D)
  | [] => some (True, [])
  | x :: r => joinF (rd σ.get [] x).1 (freeT (rd σ.get [] x).2) (frees σ r)

theorem frees_ok [Amb] {σ : St} : ∀ {l : List Operand} {c : Prop} {ds : List D}, frees σ l = some (c, ds) → c →
    (∀ (i : Nat) d, ds[i]? = some d → ∃ x, l[i]? = some x ∧ (rd σ.get [] x).1 ∧ (rd σ.get [] x).2 = .val d ∧ freeD d = true) ∧ ds.length = l.length
  | [], c, ds, h, _ => by
    simp only [frees, Option.some.injEq, Prod.mk.injEq] at h; obtain ⟨_, rfl⟩ := h
    exact ⟨fun i d hi => by simp at hi, rfl⟩
  | x :: r, c, ds, h, hc => by
    simp only [frees] at h
    cases h1 : freeT (rd σ.get [] x).2 with
    | none => rw [h1] at h; simp [joinF] at h
    | some d0 =>
      cases h2 : frees σ r with
      | none => rw [h1, h2] at h; simp [joinF] at h
      | some y =>
        obtain ⟨c', ds'⟩ := y
        rw [h1, h2] at h
        simp only [joinF, Option.some.injEq, Prod.mk.injEq] at h
        obtain ⟨rfl, rfl⟩ := h
        obtain ⟨k1, k2⟩ := frees_ok h2 hc.2
        refine ⟨fun i d hi => ?_, by simp [k2]⟩
        match i, hi with
        | 0, hi =>
          simp only [List.getElem?_cons_zero, Option.some.injEq] at hi; subst hi
          refine ⟨x, rfl, hc.1, ?_⟩
          generalize (rd σ.get [] x).2 = t at h1
          cases t with
          | val d =>
            simp only [freeT] at h1
            cases hd : freeD d with
            | true => rw [hd] at h1; simp at h1; subst h1; exact ⟨rfl, hd⟩
            | false => rw [hd] at h1; simp at h1
          | _ => simp [freeT] at h1
        | i + 1, hi => simpa using k1 i d (by simpa using hi)

def meetL [Amb] (P : Program) (f : FuncId) (z : D) (es ds : List D) (X : List D → Prop) : Prop := ∃ es', MCalls P f z es ds es' ∧ X es'
theorem meetL.of [Amb] {P : Program} {f : FuncId} {z : D} {es ds es' : List D} {X : List D → Prop} (h : MCalls P f z es ds es') (hx : X es') : meetL P f z es ds X := ⟨es', h, hx⟩

def finL (N : Nat) (dst : Option Nat) (s : Nat) (σ : St) (K : St → Prop) (es' : List D) : Prop :=
  match dst with
  | some d => d < N ∧ K ((d, .junk) :: lendS s es' σ)
  | none => K (lendS s es' σ)
def lendO [Amb] (P : Program) (N : Nat) (dst : Option Nat) (σ : St) (K : St → Prop) (c : Prop) (fid : FuncId) (s : Nat) (ds : List D) : Option (Bool × D × List D) → Prop
  | some (true, z, es) => c ∧ es.all freeE = true ∧ meetL P fid z es ds (finL N dst s σ K)
  | _ => False
def lendC [Amb] (P : Program) (N : Nat) (dst : Option Nat) (σ : St) (K : St → Prop) (c : Prop) : Option (List Bool) → T → T → Option (Prop × List D) → Prop
  | some [], .val (.fn fid []), .alias (s, 0), some (c', ds) => lendO P N dst σ K (c ∧ c') fid s ds ((σ.get s).ownAt 0)
  | _, _, _, _ => False
@[simp] theorem lendO_own [Amb] {P : Program} {N : Nat} {dst : Option Nat} {σ : St} {K : St → Prop} {c : Prop} {fid : FuncId} {s : Nat} {ds : List D} {z : D} {es : List D} :
    lendO P N dst σ K c fid s ds (some (true, z, es)) = (c ∧ es.all freeE = true ∧ meetL P fid z es ds (finL N dst s σ K)) := rfl
@[simp] theorem lendC_ok [Amb] {P : Program} {N : Nat} {dst : Option Nat} {σ : St} {K : St → Prop} {c c' : Prop} {fid : FuncId} {s : Nat} {ds : List D} :
    lendC P N dst σ K c (some []) (.val (.fn fid [])) (.alias (s, 0)) (some (c', ds)) = lendO P N dst σ K (c ∧ c') fid s ds ((σ.get s).ownAt 0) := rfl
@[simp] theorem finL_some {N d s : Nat} {σ : St} {K : St → Prop} {es' : List D} : finL N (some d) s σ K es' = (d < N ∧ K ((d, .junk) :: lendS s es' σ)) := rfl
@[simp] theorem finL_none {N s : Nat} {σ : St} {K : St → Prop} {es' : List D} : finL N none s σ K es' = K (lendS s es' σ) := rfl
@[simp] theorem joinF_some {c c' : Prop} {d : D} {ds : List D} : joinF c (some d) (some (c', ds)) = some (c ∧ c', d :: ds) := rfl
@[simp] theorem freeT_val {d : D} : freeT (.val d) = bif freeD d then some d else none := rfl
@[simp] theorem frees_nil [Amb] {σ : St} : frees σ [] = some (True, []) := rfl
@[simp] theorem frees_cons [Amb] {σ : St} {x : Operand} {r : List Operand} : frees σ (x :: r) = joinF (rd σ.get [] x).1 (freeT (rd σ.get [] x).2) (frees σ r) := rfl

def lendA [Amb] (E : Env) (N : Nat) (ops : Array Oper) (o : Oper) (σ : St) (K : St → Prop) (f : Operand) : List Operand → Prop
  | [] => False
  | x0 :: xr => lendC E.P N o.dst σ K ((rd σ.get [] f).1 ∧ (rd σ.get [] x0).1) (guardL ops σ o) (rd σ.get [] f).2 (rd σ.get [] x0).2 (frees σ xr)
/-- As 'stp'; a call is one of a function that writes into the row which its first argument heads. -/
def stpL [Amb] (E : Env) (N : Nat) (ops : Array Oper) (o : Oper) (σ : St) (K : St → Prop) : Prop :=
  match o.op with
  | .call { callee := .value f, args := xs, argTypes := _ } => lendA E N ops o σ K f xs.toList
  | _ => stp E N ops o σ K
section
variable [Amb] {ops : Array Oper} {K : St → Prop} {d : Option Nat} {ty : TypeId} {pos : String} {after : Array Edge} {guard : Option (Nat × Bool)} {x y f : Operand} {xs : Array Operand} {ats : Array TypeId} {bo : BinOp} {t1 t2 : TypeId} {bn : Builtin} {x0 : Operand} {xr : List Operand}
@[simp] theorem lendA_cons {o : Oper} : lendA E N ops o σ K f (x0 :: xr) = lendC E.P N o.dst σ K ((rd σ.get [] f).1 ∧ (rd σ.get [] x0).1) (guardL ops σ o) (rd σ.get [] f).2 (rd σ.get [] x0).2 (frees σ xr) := rfl
@[simp] theorem stpL_move : stpL E N ops { dst := d, op := .move x, type := ty, pos := pos, after := after, guard := guard } σ K = stp E N ops { dst := d, op := .move x, type := ty, pos := pos, after := after, guard := guard } σ K := rfl
@[simp] theorem stpL_bin : stpL E N ops { dst := d, op := .binOp bo t1 x y t2, type := ty, pos := pos, after := after, guard := guard } σ K = stp E N ops { dst := d, op := .binOp bo t1 x y t2, type := ty, pos := pos, after := after, guard := guard } σ K := rfl
@[simp] theorem stpL_built : stpL E N ops { dst := d, op := .call { callee := .builtin bn, args := xs, argTypes := ats }, type := ty, pos := pos, after := after, guard := guard } σ K = stp E N ops { dst := d, op := .call { callee := .builtin bn, args := xs, argTypes := ats }, type := ty, pos := pos, after := after, guard := guard } σ K := rfl
@[simp] theorem stpL_call : stpL E N ops { dst := d, op := .call { callee := .value f, args := xs, argTypes := ats }, type := ty, pos := pos, after := after, guard := guard } σ K = lendA E N ops { dst := d, op := .call { callee := .value f, args := xs, argTypes := ats }, type := ty, pos := pos, after := after, guard := guard } σ K f xs.toList := rfl
end

theorem stpL_ok [Amb] (hE : E.Ok) (h : RB base S0 w0 N σ.get a w bk) {ops : Array Oper} {o : Oper} {K : St → Prop} (hs : stpL E N ops o σ K) : Step E.P base S0 w0 N ops o K a w := by
  unfold stpL at hs
  split at hs
  · rename_i f xs ats ho
    cases hxs : xs.toList with
    | nil => rw [hxs] at hs; exact hs.elim
    | cons x0 xr =>
      rw [hxs, lendA_cons] at hs
      generalize hg : guardL ops σ o = g at hs
      generalize hf : (rd σ.get [] f).2 = tf at hs
      generalize hx : (rd σ.get [] x0).2 = tx at hs
      generalize hfr : frees σ xr = fr at hs
      unfold lendC at hs
      split at hs
      · rename_i fid s c' ds
        generalize hown : (σ.get s).ownAt 0 = ow at hs
        unfold lendO at hs
        split at hs
        · rename_i z es
          obtain ⟨⟨⟨c1, c2⟩, c3⟩, h2, es', hm, hK⟩ := hs
          obtain ⟨k1, k2⟩ := frees_ok hfr c3
          exact lend_step h hg ho hxs hf c1 hx c2 k1 k2 hown h2 hm (by unfold finL at hK; exact hK)
        · exact hs.elim
      · exact hs.elim
  · exact stp_ok hE h hs

def walkL [Amb] (E : Env) (N : Nat) (ops : Array Oper) : List Oper → St → (St → Prop) → Prop
  | [], σ, K => K σ
  | o :: os, σ, K => stpL E N ops o σ fun σ' => walkL E N ops os σ' K
def laterL [Amb] (E : Env) (N : Nat) (ops : Array Oper) (os : List Oper) (K : St → Prop) : St → Prop := fun σ' => walkL E N ops os σ' K
@[simp] theorem walkL_cons [Amb] {ops : Array Oper} {o : Oper} {os : List Oper} {K : St → Prop} : walkL E N ops (o :: os) σ K = stpL E N ops o σ (laterL E N ops os K) := rfl
@[simp] theorem walkL_nil [Amb] {ops : Array Oper} {K : St → Prop} : walkL E N ops [] σ K = K σ := rfl
@[simp] theorem laterL_eq [Amb] {ops : Array Oper} {os : List Oper} {K : St → Prop} : laterL E N ops os K σ = walkL E N ops os σ K := rfl
theorem walkL_ok [Amb] (hE : E.Ok) {ops : Array Oper} {Q : Exit → Act → World → Prop} {K : St → Prop} (hQ : ∀ a w, Kc base S0 w0 N K a w → Q .normal a w) : ∀ (l : List Oper) {σ : St} {a : Act} {w : World}, R base S0 w0 N σ.get a w →
    walkL E N ops l σ K → wpList E.P ops Q l a w
  | [], σ, a, w, h, hs => hQ a w ⟨σ, hs, h⟩
  | o :: l, σ, a, w, ⟨bk, h⟩, hs => by
    refine wpList_step fun K' hK' => ?_
    have hst := stpL_ok hE h (K := fun σ' => walkL E N ops l σ' K) hs Q
    split at hst
    · rename_i hw
      rw [if_pos hw]
      exact Oper.wp_mono (fun a' w' ⟨σ', h1, h2⟩ => hK' a' w' (walkL_ok hE hQ l h2 h1)) hst
    · rename_i hw
      rw [if_neg hw]
      obtain ⟨σ', h1, h2⟩ := hst
      exact hK' _ _ (walkL_ok hE hQ l h2 h1)

theorem AWp.regionL [Amb] (hE : E.Ok) (V : List Nat) {id : Nat} {ops : Array Oper} {Q : Exit → St → Prop} (h : walkL E N ops ops.toList σ fun σ' => Q .normal (clean V (settle V N σ' V))) : AWp E base S0 w0 N (.region id ops false) σ Q :=
  fun _ _ hR => wp_region_list (walkL_ok hE (fun _ _ ⟨_, hq, hr⟩ => ⟨_, hq, clean_ok V (settle_ok V V hr)⟩) _ hR h)

theorem AWp.rseqL [Amb] (hE : E.Ok) (V : List Nat) {id : Nat} {ops : Array Oper} {y : Code} {Q : Exit → St → Prop}
    (h : ∀ K : St → Prop, (∀ σ', AWp E base S0 w0 N y σ' Q → K σ') → walkL E N ops ops.toList σ (done V N K)) : AWp E base S0 w0 N (.seq (.region id ops false) y) σ Q :=
  AWp.seq (AWp.regionL hE V (h _ fun _ h => h))

theorem AWp.rendL [Amb] (hE : E.Ok) (V : List Nat) {id : Nat} {ops : Array Oper} {Q : Exit → St → Prop}
    (h : ∀ K : St → Prop, (∀ σ', Q .normal σ' → K σ') → walkL E N ops ops.toList σ (done V N K)) : AWp E base S0 w0 N (.region id ops false) σ Q :=
  AWp.regionL hE V (h _ fun _ h => h)
end
@[simp] theorem keepT_lent {u u' : Value} {m m' : Bool} {z z' : D} {es es' : List D} : keepT (.lent u m z es) (.lent u' m' z' es') = true := rfl
attribute [simp] lendS lendR keepL freeD entryL
end Ab

/- Only imports. -/

/- A row that is handed over, taken as a datum. -/
namespace Ab
open Go Go.RowKit

theorem RetRel.datum {w w' : World} {S : Nat → Nat → Prop} {z : D} {es : List D} {v : Value} (h : RetRel w w' S (.own z es) v) : RetRel w w' S (.d (.slice z es)) v := by
  obtain ⟨ob, hh, hc⟩ := h
  show Rep w' (stayed w w' S none) (.slice z es) v
  rcases hh with ⟨h0, a, rfl⟩ | ⟨b, cap, arr, ty, rfl, rfl, hrow, hsz, hn, hcap⟩
  · obtain rfl := List.eq_nil_of_length_eq_zero h0
    exact .nil z a 0 (Nat.zero_le _)
  · obtain ⟨h1, h2, h3, arr', ty', h4, h5, h6⟩ := hc b rfl
    obtain ⟨rfl, rfl⟩ := hrow.det h4
    refine .slice z _ rfl es b 0 cap (fun i j => arr.getD (i * z.cells.length + j) undef) hn hcap h3 (fun i e j c he hj => ?_) (fun i e j c he hj => ?_)
    · refine ⟨.inr ⟨h1, h2, by simp⟩, ?_⟩
      have hl1 := (h3 e (List.mem_of_getElem? he)).1
      have hjl := (List.getElem?_eq_some_iff.1 hj).1
      have hil := (List.getElem?_eq_some_iff.1 he).1
      have hb1 : (i + 1) * z.cells.length ≤ es.length * z.cells.length := Nat.mul_le_mul_right _ hil
      rw [Nat.add_mul] at hb1
      rw [hrow.cell, Nat.zero_add, Array.getD_eq_getD_getElem?, Array.getElem?_eq_getElem (by omega)]; rfl
    · exact (h6 i e j c he hj).mono (fun _ _ _ => rfl) (fun x o hs => by
        rcases hs with hs | ⟨k1, k2, k3⟩
        · exact .inl hs
        · exact .inr ⟨k1, k2, by simp⟩)
theorem ACalls.datum [Amb] {P : Program} {f : FuncId} {args : List D} {z : D} {es : List D} (h : ACalls P f args (.own z es)) : ACalls P f args (.d (.slice z es)) :=
  ⟨h.1, fun w S vs hG hS hs hr => (h.2 w S vs hG hS hs hr).mono fun _ _ ⟨v, he, hb, hrel⟩ => ⟨v, he, hb, hrel.datum⟩⟩
/-- Arrays whose elements are several cells each, as arguments. -/
theorem Opens.arrS {P : Program} {t e : TypeId} {α : Type} {f : α → List D} {ok : α → Prop} {n m : Nat} (ht : P.underlying t = some (.array n e)) (hc : P.cellsOf e = m) (hn : P.cellsOf t = n * m) (h : Opens P e f ok) :
    Opens P t (fun l : List α => l.flatMap f) (fun l => l.length = n ∧ ∀ a ∈ l, ok a) := by
  refine ⟨fun {H} enc w fuel cs x hx => ?_⟩
  obtain ⟨xs, m', rfl, _, hlen, hxl, hf⟩ := DataW.trod_array ht hx
  rw [hn] at hlen
  have key : ∀ k : Nat, k ≤ n → ∃ l : List α, l.length = k ∧ (l.flatMap f).length = k * m ∧ (∀ a ∈ l, ok a) ∧ (∀ c ∈ l.flatMap f, c.flat = true) ∧ ∀ j c, (l.flatMap f)[j]? = some c → Rep w (oldS w) c (cs.getD j undef) := by
    intro k
    induction k with
    | zero => intro _; exact ⟨[], rfl, by simp, by simp, by simp, fun j c hj => by simp at hj⟩
    | succ k ih =>
      intro hk
      obtain ⟨l, h1, h0, h2, h3, h4⟩ := ih (by omega)
      have hlt : k < xs.length := by omega
      have hh := hf k (by omega)
      rw [hc, List.getElem?_eq_getElem hlt] at hh
      obtain ⟨a, a1, a2, a3, a4⟩ := h.go enc w m' _ _ hh
      have hb : (k + 1) * m ≤ n * m := Nat.mul_le_mul_right _ hk
      rw [Nat.add_mul, Nat.one_mul] at hb
      have hfa : (f a).length = m := by rw [a2, List.length_take, List.length_drop, hlen]; omega
      refine ⟨l ++ [a], by simp [h1], ?_, ?_, ?_, ?_⟩
      · rw [List.flatMap_append, List.length_append, h0]; simp [hfa, Nat.add_mul]
      · intro b hb
        rcases List.mem_append.1 hb with hb | hb
        · exact h2 b hb
        · simp at hb; subst hb; exact a1
      · intro c hc'
        rw [List.flatMap_append] at hc'
        rcases List.mem_append.1 hc' with hb | hb
        · exact h3 c hb
        · exact a3 c (by simpa using hb)
      · intro j c hj
        rw [List.flatMap_append] at hj
        by_cases hjk : j < k * m
        · rw [List.getElem?_append_left (by omega)] at hj
          exact h4 j c hj
        · rw [List.getElem?_append_right (by omega), h0] at hj
          simp only [List.flatMap_cons, List.flatMap_nil, List.append_nil] at hj
          have hjm := (List.getElem?_eq_some_iff.1 hj).1
          have := a4 _ c hj
          have e1 : ((cs.drop (k * m)).take m).getD (j - k * m) undef = cs.getD j undef := by
            rw [List.getD_eq_getElem?_getD, List.getElem?_take_of_lt (by omega), List.getElem?_drop, List.getD_eq_getElem?_getD]
            congr 2; omega
          rwa [e1] at this
  obtain ⟨l, h1, h0, h2, h3, h4⟩ := key n (Nat.le_refl _)
  exact ⟨l, ⟨h1, h2⟩, by rw [h0, hlen], h3, h4⟩
end Ab
