/-
  A layer of rules over the model: frames as data, regions by evaluation, contracts of functions. No statement of the program. Conditions: none.
-/
import Derived.Test.YtjpjndfdncalfaaDoorEngTwo
import Derived.OwnWalk
set_option linter.unusedVariables false
set_option linter.unusedSimpArgs false
/- A row that is lent: a function that writes into the row which its first argument heads. -/
namespace Ab
open Go Go.RowKit

/-- Data that hold wherever they are. -/
def freeD : D → Bool
  | .int .. => true
  | .bool _ => true
  | .str _ => true
  | .fn _ [] => true
  | .fn _ (_ :: _) => false
  | .slice .. => false
  | .agg _ => false
  | .ref _ => false
  | .lit _ => false
def freeE (e : D) : Bool := e.cells.all freeD
def NoS (_ _ : Nat) : Prop := False

theorem Rep.free {w w' : World} {S S' : Nat → Nat → Prop} {d : D} {v : Value} (h : Rep w S d v) (hd : freeD d = true) : Rep w' S' d v := by
  cases h with
  | int k n h => exact .int k n h
  | bool b => exact .bool b
  | str s h => exact .str s h
  | fn f caps vs hl h =>
    cases caps with
    | nil => exact .fn f [] vs hl (fun i c hi => by simp at hi)
    | cons c cs => simp [freeD] at hd
  | _ => simp [freeD] at hd

theorem Cont.free {w : World} {S S' : Nat → Nat → Prop} {b sz : Nat} {es : List D} (h : Cont w S b sz es) (hf : es.all freeE = true) : Cont w S' b sz es := by
  obtain ⟨h1, arr, ty, h2, h3, h4⟩ := h
  refine ⟨h1, arr, ty, h2, h3, fun i e j c he hj => (h4 i e j c he hj).free ?_⟩
  rw [List.all_eq_true] at hf
  have := hf e (List.mem_of_getElem? he)
  unfold freeE at this
  rw [List.all_eq_true] at this
  exact this c (List.mem_of_getElem? hj)

/-- The world ahead of block n. -/
def trunc (w : World) (n : Nat) : World := { w with heap := w.heap.extract 0 n }
theorem trunc_size {w : World} {n : Nat} (h : n ≤ w.heap.size) : (trunc w n).heap.size = n := by simp [trunc]; omega
theorem trunc_get {w : World} {n k : Nat} (h : k < n) : (trunc w n).heap[k]? = w.heap[k]? := by
  simp only [trunc, Array.getElem?_extract]
  by_cases hk : k < w.heap.size
  · rw [if_pos (by omega)]; simp
  · rw [if_neg (by omega), Array.getElem?_eq_none (by omega)]
theorem trunc_below {w : World} {n : Nat} (h : n ≤ w.heap.size) : Below n (trunc w n) w := ⟨rfl, rfl, rfl, by rw [trunc_size h]; exact h, fun k hk => (trunc_get hk).symm⟩

/-- The head of a row that is lent. -/
def HdrX (w : World) (ob : Option Nat) (sz n : Nat) (v : Value) : Prop :=
  (ob = none ∧ n = 0 ∧ ∃ a, v = .slice a 0 0) ∨
  ∃ b cap arr ty, ob = some b ∧ v = .slice (some (at' b 0)) n cap ∧ HC w b arr ty ∧ arr.size = cap * sz ∧ n ≤ cap ∧ cap ≤ maxLen ∧ 0 < cap

/-- THE CONTRACT OF A FUNCTION THAT WRITES INTO A ROW: called with the head of a row that holds es, and these data, it leaves es' there, and turns nothing ahead of the row's block. -/
def MCalls [Amb] (P : Program) (f : FuncId) (z : D) (es : List D) (args : List D) (es' : List D) : Prop :=
  FnOk P f ∧ ∀ (w : World) (X : Nat) (ob : Option Nat) (v : Value) (vs : Array Value) (S : Nat → Nat → Prop), X ≤ w.heap.size → Amb.G (trunc w X) S → (∀ b o, S b o → b < X) →
    HdrX w ob z.cells.length es.length v → (∀ b, ob = some b → b = X ∧ Cont w NoS b z.cells.length es) → vs.size = args.length → (∀ i d, args[i]? = some d → Rep w NoS d (vs.getD i undef)) →
    Calls P f (#[v] ++ vs) w fun e w' => e = .returned (.tuple #[]) ∧ Below X (trunc w X) w' ∧ HdrX w' ob z.cells.length es'.length v ∧ ∀ b, ob = some b → Cont w' NoS b z.cells.length es'

/-- The frame as such a call begins: the row belongs to a slot that no operation names. -/
def entryL (N : Nat) (v : Value) (z : D) (es : List D) (args : List D) : St := (N, .lent v true z es) :: (0, .alias (N, 0)) :: entryFrom 1 args

section
variable {base : Nat} {S0 : Nat → Nat → Prop} {w0 : World} {N : Nat} {a : Act} {w : World} {bk : Pl → Option Nat} {E : Env} {P : Program} {σ : St} {g : Nat → T}

theorem HdrX.hdr {w : World} {ob : Option Nat} {sz n : Nat} {v : Value} (h : HdrX w ob sz n v) : Hdr w ob sz n v := by
  rcases h with ⟨_, h1, h2⟩ | ⟨b, cap, arr, ty, h1, h2, h3, h4, h5, h6, _⟩
  · exact .inl ⟨h1, h2⟩
  · exact .inr ⟨b, cap, arr, ty, h1, h2, h3, h4, h5, h6⟩

theorem entryL_get [Amb] {v : Value} {z : D} {es args : List D} (hN : 0 < N) (s : Nat) : (entryL N v z es args).get s = if s = N then .lent v true z es else if s = 0 then .alias (N, 0) else (match args[s - 1]? with | some d => .val d | none => .junk) := by
  show St.get ((N, _) :: (0, _) :: entryFrom 1 args) s = _
  simp only [St.get, entryFrom_get]
  by_cases h1 : N = s
  · rw [if_pos h1, if_pos h1.symm]
  · rw [if_neg h1, if_neg (Ne.symm h1)]
    by_cases h2 : 0 = s
    · rw [if_pos h2, if_pos h2.symm]
    · rw [if_neg h2, if_neg (Ne.symm h2), if_pos (by omega)]
      rfl

theorem entryL_RB [Amb] {args : List D} {v : Value} {z : D} {es : List D} {vs : Array Value} {S : Nat → Nat → Prop} {w : World} {X : Nat} {ob : Option Nat} (hX : X ≤ w.heap.size) (hG : Amb.G (trunc w X) S)
    (hv : HdrX w ob z.cells.length es.length v) (hc : ∀ b, ob = some b → b = X ∧ Cont w NoS b z.cells.length es) (hl : vs.size = args.length) (hr : ∀ i d, args[i]? = some d → Rep w NoS d (vs.getD i undef)) (hn : args.length + 1 ≤ N) :
    RB X S (trunc w X) N (entryL N v z es args).get { tmps := (#[v] ++ vs) ++ Array.replicate (N - (#[v] ++ vs).size) undef, defers := [] } w (fun p => if p = (N, 0) then ob else none) where
  amb := hG
  defers := rfl
  size := by simp; omega
  hb := (trunc_size hX).symm
  below := trunc_below hX
  rng := fun p b hb => by
    split at hb
    · obtain ⟨h1, _, arr, ty, h2, _⟩ := hc b hb
      subst h1
      refine ⟨Nat.le_refl _, ?_⟩
      rcases h2 with h2 | h2 <;> exact (Array.getElem?_eq_some_iff.1 h2).1
    · cases hb
  inj := fun p q b hp hq => by
    split at hp
    · split at hq
      · rename_i e1 e2; rw [e1, e2]
      · cases hq
    · cases hp
  slots := fun s => by
    rw [entryL_get (by omega)]
    by_cases h1 : s = N
    · rw [if_pos h1]
      show Hdr w (if (s, 0) = (N, 0) then ob else none) _ _ _
      rw [if_pos (by rw [h1])]; exact hv.hdr
    · rw [if_neg h1]
      by_cases h2 : s = 0
      · rw [if_pos h2]
        subst h2
        intro m z' es' ho
        simp only [entryL_get (N := N) (by omega), if_true, T.ownAt, Option.some.injEq, Prod.mk.injEq] at ho
        obtain ⟨_, rfl, rfl⟩ := ho
        show Hdr w (if (N, 0) = (N, 0) then ob else none) _ _ _
        rw [if_pos rfl]
        have : ((#[v] ++ vs) ++ Array.replicate (N - (#[v] ++ vs).size) undef).getD 0 undef = v := by
          rw [Array.getD_eq_getD_getElem?, Array.getElem?_append_left (by simp; omega), Array.getElem?_append_left (by simp)]; rfl
        show Hdr w ob _ _ (((#[v] ++ vs) ++ Array.replicate (N - (#[v] ++ vs).size) undef).getD 0 undef)
        rw [this]; exact hv.hdr
      · rw [if_neg h2]
        cases ha : args[s - 1]? with
        | none => trivial
        | some d =>
          have h3 := (List.getElem?_eq_some_iff.1 ha).1
          have h4 : ((#[v] ++ vs) ++ Array.replicate (N - (#[v] ++ vs).size) undef).getD s undef = vs.getD (s - 1) undef := by
            rw [Array.getD_eq_getD_getElem?, Array.getElem?_append_left (by simp; omega), Array.getElem?_append_right (by simp; omega), Array.getD_eq_getD_getElem?]; rfl
          rw [h4]
          exact (hr _ d ha).mono (fun _ _ _ => rfl) (fun b o hs => hs.elim)
  own := fun p m z' es' ho b hb => by
    split at hb
    · rename_i hp
      subst hp
      simp only [entryL_get (N := N) (by omega), if_true, T.ownAt, Option.some.injEq, Prod.mk.injEq] at ho
      obtain ⟨_, rfl, rfl⟩ := ho
      exact (hc b hb).2.mono rfl (fun _ _ _ => rfl) (fun _ _ hs => hs.elim)
    · cases hb
  box := fun s cs hb => by
    rw [entryL_get (by omega)] at hb
    split at hb
    · cases hb
    · split at hb
      · cases hb
      · split at hb <;> cases hb

/-- A FUNCTION THAT WRITES INTO A ROW MEETS ITS CONTRACT. -/
theorem MCalls.intro [Amb] (hE : E.Ok) {f : FuncId} {fn : Func} {c : Code} {z : D} {es args es' : List D} (hf : E.P.funcs[f]? = some fn) (hname : (fn.name == "runtime.NumGoroutine") = false) (hb : fn.body = some c) (hN : fn.ntmps = N) (hrs : fn.results = #[]) (hn : args.length + 1 ≤ N)
    (hfr : es'.all freeE = true)
    (h : (∀ d ∈ args, d.Ok) → ∀ base S0 w0 v, AWp E base S0 w0 N c (entryL N v z es args) fun e σ => (e = .ret ∨ e = .normal) ∧ σ.get N = .lent v true z es') : MCalls E.P f z es args es' := by
  refine ⟨⟨fn, hf, hname, by rw [hb]; rfl⟩, fun w X ob v vs S hX hG hS hv hc hl hr => ?_⟩
  refine calls_of_wp hf hb ?_
  rw [hN]
  have hok : ∀ d ∈ args, d.Ok := fun d hd => by
    obtain ⟨i, hi⟩ := List.getElem?_of_mem hd
    exact ⟨w, NoS, _, hr i d hi⟩
  refine wp_mono (h hok X S _ v _ w ⟨_, entryL_RB hX hG hv hc hl hr hn⟩) fun e a' w' ⟨σ', ⟨he, hret⟩, bk', hR⟩ => ?_
  have main : a'.defers = [] ∧ ∃ u, (results fn a'.tmps).run E.P w' = .ok u w' ∧ Ending.returned u = .returned (.tuple #[]) ∧ Below X (trunc w X) w' ∧ HdrX w' ob z.cells.length es'.length v ∧ ∀ b, ob = some b → Cont w' NoS b z.cells.length es' := by
    refine ⟨hR.defers, .tuple #[], ?_, rfl, hR.below, ?_⟩
    · have e : results fn a'.tmps = (do let vs ← fn.results.mapM (resV a'.tmps); pure (if h : vs.size = 1 then vs[0] else .tuple vs)) := rfl
      rw [e, hrs]
      simp
    · have h0 := hR.slots N
      rw [hret] at h0
      have h0 : Hdr w' (bk' (N, 0)) z.cells.length es'.length v := h0
      rcases hv with ⟨rfl, h1, a1, rfl⟩ | ⟨b, cap, arr, ty, rfl, rfl, h3, h4, h5, h6, h7⟩
      · refine ⟨.inl ⟨rfl, ?_, a1, rfl⟩, fun b hb => by cases hb⟩
        rcases h0 with ⟨h2, _⟩ | ⟨b, cap, arr, ty, k1, k2, _⟩
        · exact h2
        · simp only [Value.slice.injEq] at k2; exact k2.2.1.symm
      · rcases h0 with ⟨h2, a2, h8⟩ | ⟨b', cap', arr', ty', k1, k2, k3, k4, k5, k6⟩
        · simp only [Value.slice.injEq] at h8; omega
        · simp only [Value.slice.injEq, Option.some.injEq, at', Addr.mk.injEq] at k2
          obtain ⟨⟨rfl, _⟩, k7, rfl⟩ := k2
          refine ⟨.inr ⟨b, cap, arr', ty', rfl, by rw [k7], k3, k4, k5, k6, h7⟩, fun b2 hb2 => ?_⟩
          simp only [Option.some.injEq] at hb2; subst hb2
          exact (hR.own (N, 0) true z es' (by show (σ'.get N).ownAt 0 = _; rw [hret]; rfl) b k1).free hfr
  rcases he with rfl | rfl
  · exact main
  · exact main

/-- What stays of a slot when a row is lent. -/
def keepL (p : Pl) : T → T
  | .val d => bif freeD d then .val d else .junk
  | .alias q => bif q.1 == p.1 && q.2 == p.2 then .alias q else .junk
  | .junk => .junk
  | .nils => .junk
  | .opt .. => .junk
  | .box _ => .junk
  | .own .. => .junk
  | .tup _ => .junk
  | .ptr .. => .junk
  | .optr .. => .junk
  | .lent .. => .junk
def lendR (p : Pl) : St → St
  | [] => []
  | (k, t) :: σ => (k, keepL p t) :: lendR p σ
def lendS (s : Nat) (es' : List D) (σ : St) : St := (s, (σ.get s).setOwn 0 es') :: lendR (s, 0) σ

theorem lendR_get (p : Pl) (σ : St) (s : Nat) : (lendR p σ).get s = keepL p (σ.get s) := by
  induction σ with
  | nil => rfl
  | cons q σ ih =>
    obtain ⟨k, t⟩ := q
    show St.get ((k, keepL p t) :: lendR p σ) s = keepL p (St.get ((k, t) :: σ) s)
    simp only [St.get]
    split
    · rfl
    · exact ih

theorem keepL_cases (p : Pl) (t : T) : keepL p t = .junk ∨ (∃ d, keepL p t = .val d) ∨ ∃ q, keepL p t = .alias q := by
  cases t with
  | val d =>
    simp only [keepL]
    cases freeD d
    · exact .inl rfl
    · exact .inr (.inl ⟨d, rfl⟩)
  | alias q =>
    simp only [keepL]
    cases (q.1 == p.1 && q.2 == p.2)
    · exact .inl rfl
    · exact .inr (.inr ⟨q, rfl⟩)
  | _ => exact .inl rfl
theorem keepL_own (p : Pl) (t : T) (i : Nat) : (keepL p t).ownAt i = none := by
  rcases keepL_cases p t with h | ⟨d, h⟩ | ⟨q, h⟩ <;> rw [h] <;> rfl
theorem keepL_box (p : Pl) (t : T) : (keepL p t).box? = none := by
  rcases keepL_cases p t with h | ⟨d, h⟩ | ⟨q, h⟩ <;> rw [h] <;> rfl

/-- The row of slot s has been written by the function that it was lent to. -/
theorem RB.lent [Amb] (h : RB base S0 w0 N σ.get a w bk) {s : Nat} {z : D} {es es' : List D} {w' : World} (hown : (σ.get s).ownAt 0 = some (true, z, es)) (hb : Below base w0 w')
    (hsz : ∀ b, bk (s, 0) = some b → b < w'.heap.size) (hall : ∀ u, Hdr w (bk (s, 0)) z.cells.length es.length u → Hdr w' (bk (s, 0)) z.cells.length es'.length u)
    (hc : ∀ b, bk (s, 0) = some b → Cont w' NoS b z.cells.length es') : RB base S0 w0 N (lendS s es' σ).get a w' (fun q => if q = (s, 0) then bk q else none) := by
  have hget : ∀ k, (lendS s es' σ).get k = if s = k then (σ.get s).setOwn 0 es' else keepL (s, 0) (σ.get k) := fun k => by
    show St.get ((s, _) :: lendR (s, 0) σ) k = _
    simp only [St.get, lendR_get]
  have hoth : ∀ q m z1 es1, ((lendS s es' σ).get q.1).ownAt q.2 = some (m, z1, es1) → q = (s, 0) ∧ m = true ∧ z1 = z ∧ es1 = es' := fun q m z1 es1 ho => by
    rw [hget] at ho
    split at ho
    · rename_i hs
      by_cases hq : q.2 = 0
      · rw [hq, setOwn_same hown] at ho
        simp only [Option.some.injEq, Prod.mk.injEq] at ho
        exact ⟨Prod.ext hs.symm hq, ho.1.symm, ho.2.1.symm, ho.2.2.symm⟩
      · rw [setOwn_other hq] at ho
        cases hg : σ.get s with
        | own m0 z0 es0 => rw [hg] at ho; cases hq2 : q.2 with
          | zero => exact absurd hq2 hq
          | succ i => rw [hq2] at ho; simp [T.ownAt] at ho
        | lent u m0 z0 es0 => rw [hg] at ho; cases hq2 : q.2 with
          | zero => exact absurd hq2 hq
          | succ i => rw [hq2] at ho; simp [T.ownAt] at ho
        | _ => rw [hg] at hown; simp [T.ownAt] at hown
    · rw [keepL_own] at ho; cases ho
  refine ⟨h.defers, h.size, h.hb, hb, fun p b hp => ?_, fun p q b hp hq => ?_, fun k => ?_, fun p m z1 es1 ho b hp => ?_, fun k cs hbx => ?_, h.amb⟩
  · split at hp
    · rename_i e; subst e; exact ⟨(h.rng _ _ hp).1, hsz b hp⟩
    · cases hp
  · split at hp
    · split at hq
      · rename_i e1 e2; rw [e1, e2]
      · cases hq
    · cases hp
  · have h0 := h.slots k
    rw [hget]
    by_cases hk : s = k
    · subst hk
      rw [if_pos rfl]
      cases hg : σ.get s with
      | own m0 z0 es0 =>
        rw [hg] at hown h0
        simp only [T.ownAt, Option.some.injEq, Prod.mk.injEq] at hown; obtain ⟨rfl, rfl, rfl⟩ := hown
        show Hdr w' (if (s, 0) = (s, 0) then bk (s, 0) else none) _ _ _
        rw [if_pos rfl]; exact hall _ h0
      | lent u m0 z0 es0 =>
        rw [hg] at hown h0
        simp only [T.ownAt, Option.some.injEq, Prod.mk.injEq] at hown; obtain ⟨rfl, rfl, rfl⟩ := hown
        show Hdr w' (if (s, 0) = (s, 0) then bk (s, 0) else none) _ _ _
        rw [if_pos rfl]; exact hall _ h0
      | _ => rw [hg] at hown; simp [T.ownAt] at hown
    · rw [if_neg hk]
      cases hg : σ.get k with
      | val d =>
        rw [hg] at h0
        simp only [keepL]
        cases hd : freeD d with
        | true => exact Rep.free h0 hd
        | false => trivial
      | alias q =>
        rw [hg] at h0
        simp only [keepL]
        cases hd : (q.1 == s && q.2 == 0) with
        | true =>
          simp only [Bool.and_eq_true, beq_iff_eq] at hd
          have hq : q = (s, 0) := Prod.ext hd.1 hd.2
          subst hq
          intro m z1 es1 ho
          obtain ⟨_, rfl, rfl, rfl⟩ := hoth _ _ _ _ ho
          show Hdr w' (if (s, 0) = (s, 0) then bk (s, 0) else none) _ _ _
          rw [if_pos rfl]
          exact hall _ (h0 true z1 es (by exact hown))
        | false => trivial
      | _ => trivial
  · obtain ⟨rfl, rfl, rfl, rfl⟩ := hoth _ _ _ _ ho
    rw [if_pos rfl] at hp
    exact (hc b hp).mono rfl (fun _ _ _ => rfl) (fun _ _ hs => hs.elim)
  · rw [hget] at hbx
    split at hbx
    · cases hg : σ.get s with
      | own m0 z0 es0 => rw [hg] at hbx; cases hbx
      | lent u m0 z0 es0 => rw [hg] at hbx; cases hbx
      | _ => rw [hg] at hown; simp [T.ownAt] at hown
    · rw [keepL_box] at hbx; cases hbx

/-- The call of a function that writes into the row of slot s. -/
theorem lend_call [Amb] (h : RB base S0 w0 N σ.get a w bk) {s : Nat} {z : D} {es es' ds : List D} {v : Value} {vs : Array Value} {f : FuncId} (hown : (σ.get s).ownAt 0 = some (true, z, es)) (hfr : es.all freeE = true)
    (hv : Hdr w (bk (s, 0)) z.cells.length es.length v) (hl : vs.size = ds.length) (hr : ∀ i d, ds[i]? = some d → Rep w NoS d (vs.getD i undef)) (hm : MCalls P f z es ds es') :
    Calls P f (#[v] ++ vs) w fun e w' => e = .returned (.tuple #[]) ∧ ∃ bk', RB base S0 w0 N (lendS s es' σ).get a w' bk' := by
  have hG : ∀ X, base ≤ X → X ≤ w.heap.size → Amb.G (trunc w X) (fun b o => b < base ∧ S0 b o) := fun X h1 h2 => by
    have hbel : Below base w0 (trunc w X) := by
      refine ⟨h.below.os, h.below.tape, h.below.output, ?_, fun k hk => ?_⟩
      · rw [trunc_size h2, ← h.hb]; exact h1
      · rw [trunc_get (by omega)]; exact h.below.block k hk
    exact Amb.mono h.amb (h.hb ▸ hbel) (fun b o hb hs => ⟨h.hb ▸ hb, hs⟩)
  have hB : ∀ X w', base ≤ X → X ≤ w.heap.size → Below X (trunc w X) w' → Below base w0 w' := fun X w' h1 h2 hw => by
    refine ⟨hw.os.trans h.below.os, hw.tape.trans h.below.tape, hw.output.trans h.below.output, ?_, fun k hk => ?_⟩
    · have := hw.size; rw [trunc_size h2] at this; rw [← h.hb]; omega
    · rw [hw.block k (by omega), trunc_get (by omega)]; exact h.below.block k hk
  have hcont : ∀ b, bk (s, 0) = some b → Cont w NoS b z.cells.length es := fun b hb => (h.own (s, 0) true z es hown b hb).free hfr
  by_cases hz : es.length = 0 ∧ ∃ a0, v = .slice a0 0 0
  · -- nothing is lent
    obtain ⟨h0, a0, rfl⟩ := hz
    refine (hm.2 w w.heap.size none _ vs _ (Nat.le_refl _) (hG _ h.le (Nat.le_refl _)) (fun b o hs => by have := h.le; omega) (.inl ⟨rfl, h0, a0, rfl⟩) (fun b hb => by cases hb) hl hr).mono fun e w' ⟨he, hw, hx, _⟩ => ⟨he, ?_⟩
    have hes' : es'.length = 0 := by rcases hx with ⟨_, h1, _⟩ | ⟨b, _, _, _, h1, _⟩ <;> first | exact h1 | cases h1
    have hblk : ∀ k, k < w.heap.size → w'.heap[k]? = w.heap[k]? := fun k hk => (hw.block k hk).trans (trunc_get hk)
    have hsz := hw.size
    rw [trunc_size (Nat.le_refl _)] at hsz
    have hn : es = [] := List.eq_nil_of_length_eq_zero h0
    have hn' : es' = [] := List.eq_nil_of_length_eq_zero hes'
    subst hn hn'
    refine ⟨_, h.lent hown (hB _ _ h.le (Nat.le_refl _) hw) (fun b hb => by have := (h.rng _ _ hb).2; omega) (fun u hu => hu.same fun b hb => .of_eq (hblk b (h.rng _ _ hb).2)) (fun b hb => ?_)⟩
    exact (hcont b hb).mono (hblk b (h.rng _ _ hb).2) (fun _ _ hs => hs.elim) (fun _ _ hs => hs.elim)
  · obtain ⟨b, cap, arr, ty, k1, rfl, k3, k4, k5, k6⟩ : ∃ b cap arr ty, bk (s, 0) = some b ∧ v = .slice (some (at' b 0)) es.length cap ∧ HC w b arr ty ∧ arr.size = cap * z.cells.length ∧ es.length ≤ cap ∧ cap ≤ maxLen := by
      rcases hv with ⟨h1, h2⟩ | h1
      · exact absurd ⟨h1, h2⟩ hz
      · exact h1
    have hcap : 0 < cap := by
      rcases Nat.eq_zero_or_pos cap with h1 | h1
      · exfalso; subst h1
        exact hz ⟨by omega, _, by rw [show es.length = 0 by omega]⟩
      · exact h1
    have hr1 := h.rng _ _ k1
    refine (hm.2 w b (some b) _ vs _ (by omega) (hG b hr1.1 (by omega)) (fun b' o hs => by omega) (.inr ⟨b, cap, arr, ty, rfl, rfl, k3, k4, k5, k6, hcap⟩) (fun b' hb' => by
      simp only [Option.some.injEq] at hb'; subst hb'; exact ⟨rfl, hcont b k1⟩) hl hr).mono fun e w' ⟨he, hw, hx, hcc⟩ => ⟨he, ?_⟩
    obtain ⟨arr', ty', m3, m4, m5, m6⟩ : ∃ arr' ty', HC w' b arr' ty' ∧ arr'.size = cap * z.cells.length ∧ es'.length = es.length ∧ es'.length ≤ cap := by
      rcases hx with ⟨h1, _⟩ | ⟨b', cap', arr', ty', h1, h2, h3, h4, h5, _⟩
      · cases h1
      · simp only [Option.some.injEq] at h1; subst h1
        simp only [Value.slice.injEq] at h2
        obtain ⟨_, h7, rfl⟩ := h2
        exact ⟨arr', ty', h3, h4, h7.symm, h5⟩
    refine ⟨_, h.lent hown (hB b w' hr1.1 (by omega) hw) (fun b' hb' => ?_) (fun u hu => ?_) (fun b' hb' => ?_)⟩
    · rw [k1] at hb'; simp only [Option.some.injEq] at hb'; subst hb'
      rcases m3 with m3 | m3 <;> exact (Array.getElem?_eq_some_iff.1 m3).1
    · rcases hu with ⟨h1, h2⟩ | ⟨b2, cap2, arr2, ty2, j1, rfl, j3, j4, j5, j6⟩
      · exact .inl ⟨by omega, h2⟩
      · rw [k1] at j1; simp only [Option.some.injEq] at j1; subst j1
        obtain ⟨rfl, rfl⟩ := k3.det j3
        exact .inr ⟨b, cap2, arr', ty', k1, by rw [m5], m3, by omega, by omega, j6⟩
    · rw [k1] at hb'; simp only [Option.some.injEq] at hb'; subst hb'
      exact hcc b rfl

theorem lend_step [Amb] (h : RB base S0 w0 N σ.get a w bk) {ops : Array Oper} {o : Oper} (hg : guardL ops σ o = some []) {f : Operand} {xs : Array Operand} {ats : Array TypeId} {x0 : Operand} {xr : List Operand}
    (ho : o.op = .call { callee := .value f, args := xs, argTypes := ats }) (hxs : xs.toList = x0 :: xr) {fid : FuncId} {s : Nat} {ds : List D} {z : D} {es es' : List D} {K : St → Prop}
    (hf : (rd σ.get [] f).2 = .val (.fn fid [])) (hfc : (rd σ.get [] f).1) (hx : (rd σ.get [] x0).2 = .alias (s, 0)) (hxc : (rd σ.get [] x0).1)
    (hds : ∀ (i : Nat) d, ds[i]? = some d → ∃ x, xr[i]? = some x ∧ (rd σ.get [] x).1 ∧ (rd σ.get [] x).2 = .val d ∧ freeD d = true) (hlen : ds.length = xr.length)
    (hown : (σ.get s).ownAt 0 = some (true, z, es)) (hfr : es.all freeE = true) (hm : MCalls E.P fid z es ds es')
    (hK : match o.dst with | some d => d < N ∧ K ((d, .junk) :: lendS s es' σ) | none => K (lendS s es' σ)) : Step E.P base S0 w0 N ops o K a w := by
  refine step_now h hg fun Q => ?_
  obtain ⟨r0, _⟩ := rd_ok h nil_all x0 hxc
  rw [hx] at r0
  have hv : Hdr w (bk (s, 0)) z.cells.length es.length (a.eval x0) := r0 true z es hown
  obtain ⟨r1, _⟩ := rd_ok h nil_all f hfc
  rw [hf] at r1
  obtain ⟨fn, fn1, fn2, fn3⟩ := hm.1
  have hcall := lend_call (vs := (xr.map a.eval).toArray) h hown hfr hv (by simp [hlen]) (fun i d hi => by
    obtain ⟨x, h1, h2, h3, h4⟩ := hds i d hi
    obtain ⟨r2, _⟩ := rd_ok h nil_all x h2
    rw [h3] at r2
    have h5 : ((xr.map a.eval).toArray).getD i undef = a.eval x := by
      rw [Array.getD_eq_getD_getElem?, List.getElem?_toArray, List.getElem?_map, h1]; rfl
    rw [h5]
    exact Rep.free r2 h4) hm
  have hargs : xs.map a.eval = #[a.eval x0] ++ (xr.map a.eval).toArray := by
    have : xs = (x0 :: xr).toArray := by rw [← hxs]
    rw [this]; simp
  generalize hvf : a.eval f = vf at r1
  have r1' : Rep w (stab base S0 σ.get bk w.heap.size) (.fn fid []) vf := r1
  cases r1' with
  | fn _ _ vcs hl hcap =>
    have hvc : vcs = #[] := by cases vcs; simp_all
    have hrun : (execOp a.eval o).run E.P w = .ok (.enter fid (xs.map a.eval)) w := by
      have hb : fn.body ≠ none := by intro hbb; rw [hbb] at fn3; cases fn3
      have hn : fn.name ≠ "runtime.NumGoroutine" := by simpa using fn2
      simp [execOp, ho, resolve, hvf, Deferred.ofValue, invoke, callFunc, fn1, hn, hb, hvc]
    unfold Oper.wp
    rw [hrun, hargs]
    refine hcall.mono fun e w' ⟨he, bk', hR⟩ => ?_
    subst he
    show Kc base S0 w0 N K (a.put o.dst (.tuple #[])) w'
    cases hd : o.dst with
    | none => rw [hd] at hK; exact ⟨_, hK, bk', hR⟩
    | some d =>
      rw [hd] at hK
      refine ⟨_, hK.2, clr bk' d, ?_⟩
      rw [get_cons]
      have hp := hR.put (d := d) (w' := w') (t := .junk) (v := .tuple #[]) hK.1 (Below.refl w'.heap.size w') rfl trivial
      exact hp

def freeT : T → Option D
  | .val d => bif freeD d then some d else none
  | .junk => none
  | .nils => none
  | .opt .. => none
  | .box _ => none
  | .own .. => none
  | .tup _ => none
  | .alias _ => none
  | .ptr .. => none
  | .optr .. => none
  | .lent .. => none
def joinF (c : Prop) : Option D → Option (Prop × List D) → Option (Prop × List D)
  | some d, some (c', ds) => some (c ∧ c', d :: ds)
  | _, _ => none
def frees [Amb] (σ : St) : List Operand → Option (Prop × List D)
  | [] => some (True, [])
  | x :: r => joinF (rd σ.get [] x).1 (freeT (rd σ.get [] x).2) (frees σ r)

theorem frees_ok [Amb] {σ : St} : ∀ {l : List Operand} {c : Prop} {ds : List D}, frees σ l = some (c, ds) → c →
    (∀ (i : Nat) d, ds[i]? = some d → ∃ x, l[i]? = some x ∧ (rd σ.get [] x).1 ∧ (rd σ.get [] x).2 = .val d ∧ freeD d = true) ∧ ds.length = l.length
  | [], c, ds, h, _ => by
    simp only [frees, Option.some.injEq, Prod.mk.injEq] at h; obtain ⟨_, rfl⟩ := h
    exact ⟨fun i d hi => by simp at hi, rfl⟩
  | x :: r, c, ds, h, hc => by
    simp only [frees] at h
    cases h1 : freeT (rd σ.get [] x).2 with
    | none => rw [h1] at h; simp [joinF] at h
    | some d0 =>
      cases h2 : frees σ r with
      | none => rw [h1, h2] at h; simp [joinF] at h
      | some y =>
        obtain ⟨c', ds'⟩ := y
        rw [h1, h2] at h
        simp only [joinF, Option.some.injEq, Prod.mk.injEq] at h
        obtain ⟨rfl, rfl⟩ := h
        obtain ⟨k1, k2⟩ := frees_ok h2 hc.2
        refine ⟨fun i d hi => ?_, by simp [k2]⟩
        match i, hi with
        | 0, hi =>
          simp only [List.getElem?_cons_zero, Option.some.injEq] at hi; subst hi
          refine ⟨x, rfl, hc.1, ?_⟩
          generalize (rd σ.get [] x).2 = t at h1
          cases t with
          | val d =>
            simp only [freeT] at h1
            cases hd : freeD d with
            | true => rw [hd] at h1; simp at h1; subst h1; exact ⟨rfl, hd⟩
            | false => rw [hd] at h1; simp at h1
          | _ => simp [freeT] at h1
        | i + 1, hi => simpa using k1 i d (by simpa using hi)

def meetL [Amb] (P : Program) (f : FuncId) (z : D) (es ds : List D) (X : List D → Prop) : Prop := ∃ es', MCalls P f z es ds es' ∧ X es'
theorem meetL.of [Amb] {P : Program} {f : FuncId} {z : D} {es ds es' : List D} {X : List D → Prop} (h : MCalls P f z es ds es') (hx : X es') : meetL P f z es ds X := ⟨es', h, hx⟩

def finL (N : Nat) (dst : Option Nat) (s : Nat) (σ : St) (K : St → Prop) (es' : List D) : Prop :=
  match dst with
  | some d => d < N ∧ K ((d, .junk) :: lendS s es' σ)
  | none => K (lendS s es' σ)
def lendO [Amb] (P : Program) (N : Nat) (dst : Option Nat) (σ : St) (K : St → Prop) (c : Prop) (fid : FuncId) (s : Nat) (ds : List D) : Option (Bool × D × List D) → Prop
  | some (true, z, es) => c ∧ es.all freeE = true ∧ meetL P fid z es ds (finL N dst s σ K)
  | _ => False
def lendC [Amb] (P : Program) (N : Nat) (dst : Option Nat) (σ : St) (K : St → Prop) (c : Prop) : Option (List Bool) → T → T → Option (Prop × List D) → Prop
  | some [], .val (.fn fid []), .alias (s, 0), some (c', ds) => lendO P N dst σ K (c ∧ c') fid s ds ((σ.get s).ownAt 0)
  | _, _, _, _ => False
@[simp] theorem lendO_own [Amb] {P : Program} {N : Nat} {dst : Option Nat} {σ : St} {K : St → Prop} {c : Prop} {fid : FuncId} {s : Nat} {ds : List D} {z : D} {es : List D} :
    lendO P N dst σ K c fid s ds (some (true, z, es)) = (c ∧ es.all freeE = true ∧ meetL P fid z es ds (finL N dst s σ K)) := rfl
@[simp] theorem lendC_ok [Amb] {P : Program} {N : Nat} {dst : Option Nat} {σ : St} {K : St → Prop} {c c' : Prop} {fid : FuncId} {s : Nat} {ds : List D} :
    lendC P N dst σ K c (some []) (.val (.fn fid [])) (.alias (s, 0)) (some (c', ds)) = lendO P N dst σ K (c ∧ c') fid s ds ((σ.get s).ownAt 0) := rfl
@[simp] theorem finL_some {N d s : Nat} {σ : St} {K : St → Prop} {es' : List D} : finL N (some d) s σ K es' = (d < N ∧ K ((d, .junk) :: lendS s es' σ)) := rfl
@[simp] theorem finL_none {N s : Nat} {σ : St} {K : St → Prop} {es' : List D} : finL N none s σ K es' = K (lendS s es' σ) := rfl
@[simp] theorem joinF_some {c c' : Prop} {d : D} {ds : List D} : joinF c (some d) (some (c', ds)) = some (c ∧ c', d :: ds) := rfl
@[simp] theorem freeT_val {d : D} : freeT (.val d) = bif freeD d then some d else none := rfl
@[simp] theorem frees_nil [Amb] {σ : St} : frees σ [] = some (True, []) := rfl
@[simp] theorem frees_cons [Amb] {σ : St} {x : Operand} {r : List Operand} : frees σ (x :: r) = joinF (rd σ.get [] x).1 (freeT (rd σ.get [] x).2) (frees σ r) := rfl

def lendA [Amb] (E : Env) (N : Nat) (ops : Array Oper) (o : Oper) (σ : St) (K : St → Prop) (f : Operand) : List Operand → Prop
  | [] => False
  | x0 :: xr => lendC E.P N o.dst σ K ((rd σ.get [] f).1 ∧ (rd σ.get [] x0).1) (guardL ops σ o) (rd σ.get [] f).2 (rd σ.get [] x0).2 (frees σ xr)
/-- As 'stp'; a call is one of a function that writes into the row which its first argument heads. -/
def stpL [Amb] (E : Env) (N : Nat) (ops : Array Oper) (o : Oper) (σ : St) (K : St → Prop) : Prop :=
  match o.op with
  | .call { callee := .value f, args := xs, argTypes := _ } => lendA E N ops o σ K f xs.toList
  | _ => stp E N ops o σ K
section
variable [Amb] {ops : Array Oper} {K : St → Prop} {d : Option Nat} {ty : TypeId} {pos : String} {after : Array Edge} {guard : Option (Nat × Bool)} {x y f : Operand} {xs : Array Operand} {ats : Array TypeId} {bo : BinOp} {t1 t2 : TypeId} {bn : Builtin} {x0 : Operand} {xr : List Operand}
@[simp] theorem lendA_cons {o : Oper} : lendA E N ops o σ K f (x0 :: xr) = lendC E.P N o.dst σ K ((rd σ.get [] f).1 ∧ (rd σ.get [] x0).1) (guardL ops σ o) (rd σ.get [] f).2 (rd σ.get [] x0).2 (frees σ xr) := rfl
@[simp] theorem stpL_move : stpL E N ops { dst := d, op := .move x, type := ty, pos := pos, after := after, guard := guard } σ K = stp E N ops { dst := d, op := .move x, type := ty, pos := pos, after := after, guard := guard } σ K := rfl
@[simp] theorem stpL_bin : stpL E N ops { dst := d, op := .binOp bo t1 x y t2, type := ty, pos := pos, after := after, guard := guard } σ K = stp E N ops { dst := d, op := .binOp bo t1 x y t2, type := ty, pos := pos, after := after, guard := guard } σ K := rfl
@[simp] theorem stpL_built : stpL E N ops { dst := d, op := .call { callee := .builtin bn, args := xs, argTypes := ats }, type := ty, pos := pos, after := after, guard := guard } σ K = stp E N ops { dst := d, op := .call { callee := .builtin bn, args := xs, argTypes := ats }, type := ty, pos := pos, after := after, guard := guard } σ K := rfl
@[simp] theorem stpL_call : stpL E N ops { dst := d, op := .call { callee := .value f, args := xs, argTypes := ats }, type := ty, pos := pos, after := after, guard := guard } σ K = lendA E N ops { dst := d, op := .call { callee := .value f, args := xs, argTypes := ats }, type := ty, pos := pos, after := after, guard := guard } σ K f xs.toList := rfl
end

theorem stpL_ok [Amb] (hE : E.Ok) (h : RB base S0 w0 N σ.get a w bk) {ops : Array Oper} {o : Oper} {K : St → Prop} (hs : stpL E N ops o σ K) : Step E.P base S0 w0 N ops o K a w := by
  unfold stpL at hs
  split at hs
  · rename_i f xs ats ho
    cases hxs : xs.toList with
    | nil => rw [hxs] at hs; exact hs.elim
    | cons x0 xr =>
      rw [hxs, lendA_cons] at hs
      generalize hg : guardL ops σ o = g at hs
      generalize hf : (rd σ.get [] f).2 = tf at hs
      generalize hx : (rd σ.get [] x0).2 = tx at hs
      generalize hfr : frees σ xr = fr at hs
      unfold lendC at hs
      split at hs
      · rename_i fid s c' ds
        generalize hown : (σ.get s).ownAt 0 = ow at hs
        unfold lendO at hs
        split at hs
        · rename_i z es
          obtain ⟨⟨⟨c1, c2⟩, c3⟩, h2, es', hm, hK⟩ := hs
          obtain ⟨k1, k2⟩ := frees_ok hfr c3
          exact lend_step h hg ho hxs hf c1 hx c2 k1 k2 hown h2 hm (by unfold finL at hK; exact hK)
        · exact hs.elim
      · exact hs.elim
  · exact stp_ok hE h hs

def walkL [Amb] (E : Env) (N : Nat) (ops : Array Oper) : List Oper → St → (St → Prop) → Prop
  | [], σ, K => K σ
  | o :: os, σ, K => stpL E N ops o σ fun σ' => walkL E N ops os σ' K
def laterL [Amb] (E : Env) (N : Nat) (ops : Array Oper) (os : List Oper) (K : St → Prop) : St → Prop := fun σ' => walkL E N ops os σ' K
@[simp] theorem walkL_cons [Amb] {ops : Array Oper} {o : Oper} {os : List Oper} {K : St → Prop} : walkL E N ops (o :: os) σ K = stpL E N ops o σ (laterL E N ops os K) := rfl
@[simp] theorem walkL_nil [Amb] {ops : Array Oper} {K : St → Prop} : walkL E N ops [] σ K = K σ := rfl
@[simp] theorem laterL_eq [Amb] {ops : Array Oper} {os : List Oper} {K : St → Prop} : laterL E N ops os K σ = walkL E N ops os σ K := rfl
theorem walkL_ok [Amb] (hE : E.Ok) {ops : Array Oper} {Q : Exit → Act → World → Prop} {K : St → Prop} (hQ : ∀ a w, Kc base S0 w0 N K a w → Q .normal a w) : ∀ (l : List Oper) {σ : St} {a : Act} {w : World}, R base S0 w0 N σ.get a w →
    walkL E N ops l σ K → wpList E.P ops Q l a w
  | [], σ, a, w, h, hs => hQ a w ⟨σ, hs, h⟩
  | o :: l, σ, a, w, ⟨bk, h⟩, hs => by
    refine wpList_step fun K' hK' => ?_
    have hst := stpL_ok hE h (K := fun σ' => walkL E N ops l σ' K) hs Q
    split at hst
    · rename_i hw
      rw [if_pos hw]
      exact Oper.wp_mono (fun a' w' ⟨σ', h1, h2⟩ => hK' a' w' (walkL_ok hE hQ l h2 h1)) hst
    · rename_i hw
      rw [if_neg hw]
      obtain ⟨σ', h1, h2⟩ := hst
      exact hK' _ _ (walkL_ok hE hQ l h2 h1)

theorem AWp.regionL [Amb] (hE : E.Ok) (V : List Nat) {id : Nat} {ops : Array Oper} {Q : Exit → St → Prop} (h : walkL E N ops ops.toList σ fun σ' => Q .normal (clean V (settle V N σ' V))) : AWp E base S0 w0 N (.region id ops false) σ Q :=
  fun _ _ hR => wp_region_list (walkL_ok hE (fun _ _ ⟨_, hq, hr⟩ => ⟨_, hq, clean_ok V (settle_ok V V hr)⟩) _ hR h)

theorem AWp.rseqL [Amb] (hE : E.Ok) (V : List Nat) {id : Nat} {ops : Array Oper} {y : Code} {Q : Exit → St → Prop}
    (h : ∀ K : St → Prop, (∀ σ', AWp E base S0 w0 N y σ' Q → K σ') → walkL E N ops ops.toList σ (done V N K)) : AWp E base S0 w0 N (.seq (.region id ops false) y) σ Q :=
  AWp.seq (AWp.regionL hE V (h _ fun _ h => h))

theorem AWp.rendL [Amb] (hE : E.Ok) (V : List Nat) {id : Nat} {ops : Array Oper} {Q : Exit → St → Prop}
    (h : ∀ K : St → Prop, (∀ σ', Q .normal σ' → K σ') → walkL E N ops ops.toList σ (done V N K)) : AWp E base S0 w0 N (.region id ops false) σ Q :=
  AWp.regionL hE V (h _ fun _ h => h)
end
@[simp] theorem keepT_lent {u u' : Value} {m m' : Bool} {z z' : D} {es es' : List D} : keepT (.lent u m z es) (.lent u' m' z' es') = true := rfl
attribute [simp] lendS lendR keepL freeD entryL
end Ab

/- Only imports. -/

/- A row that is handed over, taken as a datum. -/
namespace Ab
open Go Go.RowKit

theorem RetRel.datum {w w' : World} {S : Nat → Nat → Prop} {z : D} {es : List D} {v : Value} (h : RetRel w w' S (.own z es) v) : RetRel w w' S (.d (.slice z es)) v := by
  obtain ⟨ob, hh, hc⟩ := h
  show Rep w' (stayed w w' S none) (.slice z es) v
  rcases hh with ⟨h0, a, rfl⟩ | ⟨b, cap, arr, ty, rfl, rfl, hrow, hsz, hn, hcap⟩
  · obtain rfl := List.eq_nil_of_length_eq_zero h0
    exact .nil z a 0 (Nat.zero_le _)
  · obtain ⟨h1, h2, h3, arr', ty', h4, h5, h6⟩ := hc b rfl
    obtain ⟨rfl, rfl⟩ := hrow.det h4
    refine .slice z _ rfl es b 0 cap (fun i j => arr.getD (i * z.cells.length + j) undef) hn hcap h3 (fun i e j c he hj => ?_) (fun i e j c he hj => ?_)
    · refine ⟨.inr ⟨h1, h2, by simp⟩, ?_⟩
      have hl1 := (h3 e (List.mem_of_getElem? he)).1
      have hjl := (List.getElem?_eq_some_iff.1 hj).1
      have hil := (List.getElem?_eq_some_iff.1 he).1
      have hb1 : (i + 1) * z.cells.length ≤ es.length * z.cells.length := Nat.mul_le_mul_right _ hil
      rw [Nat.add_mul] at hb1
      rw [hrow.cell, Nat.zero_add, Array.getD_eq_getD_getElem?, Array.getElem?_eq_getElem (by omega)]; rfl
    · exact (h6 i e j c he hj).mono (fun _ _ _ => rfl) (fun x o hs => by
        rcases hs with hs | ⟨k1, k2, k3⟩
        · exact .inl hs
        · exact .inr ⟨k1, k2, by simp⟩)
theorem ACalls.datum [Amb] {P : Program} {f : FuncId} {args : List D} {z : D} {es : List D} (h : ACalls P f args (.own z es)) : ACalls P f args (.d (.slice z es)) :=
  ⟨h.1, fun w S vs hG hS hs hr => (h.2 w S vs hG hS hs hr).mono fun _ _ ⟨v, he, hb, hrel⟩ => ⟨v, he, hb, hrel.datum⟩⟩
/-- Arrays whose elements are several cells each, as arguments. -/
theorem Opens.arrS {P : Program} {t e : TypeId} {α : Type} {f : α → List D} {ok : α → Prop} {n m : Nat} (ht : P.underlying t = some (.array n e)) (hc : P.cellsOf e = m) (hn : P.cellsOf t = n * m) (h : Opens P e f ok) :
    Opens P t (fun l : List α => l.flatMap f) (fun l => l.length = n ∧ ∀ a ∈ l, ok a) := by
  refine ⟨fun {H} enc w fuel cs x hx => ?_⟩
  obtain ⟨xs, m', rfl, _, hlen, hxl, hf⟩ := DataW.trod_array ht hx
  rw [hn] at hlen
  have key : ∀ k : Nat, k ≤ n → ∃ l : List α, l.length = k ∧ (l.flatMap f).length = k * m ∧ (∀ a ∈ l, ok a) ∧ (∀ c ∈ l.flatMap f, c.flat = true) ∧ ∀ j c, (l.flatMap f)[j]? = some c → Rep w (oldS w) c (cs.getD j undef) := by
    intro k
    induction k with
    | zero => intro _; exact ⟨[], rfl, by simp, by simp, by simp, fun j c hj => by simp at hj⟩
    | succ k ih =>
      intro hk
      obtain ⟨l, h1, h0, h2, h3, h4⟩ := ih (by omega)
      have hlt : k < xs.length := by omega
      have hh := hf k (by omega)
      rw [hc, List.getElem?_eq_getElem hlt] at hh
      obtain ⟨a, a1, a2, a3, a4⟩ := h.go enc w m' _ _ hh
      have hb : (k + 1) * m ≤ n * m := Nat.mul_le_mul_right _ hk
      rw [Nat.add_mul, Nat.one_mul] at hb
      have hfa : (f a).length = m := by rw [a2, List.length_take, List.length_drop, hlen]; omega
      refine ⟨l ++ [a], by simp [h1], ?_, ?_, ?_, ?_⟩
      · rw [List.flatMap_append, List.length_append, h0]; simp [hfa, Nat.add_mul]
      · intro b hb
        rcases List.mem_append.1 hb with hb | hb
        · exact h2 b hb
        · simp at hb; subst hb; exact a1
      · intro c hc'
        rw [List.flatMap_append] at hc'
        rcases List.mem_append.1 hc' with hb | hb
        · exact h3 c hb
        · exact a3 c (by simpa using hb)
      · intro j c hj
        rw [List.flatMap_append] at hj
        by_cases hjk : j < k * m
        · rw [List.getElem?_append_left (by omega)] at hj
          exact h4 j c hj
        · rw [List.getElem?_append_right (by omega), h0] at hj
          simp only [List.flatMap_cons, List.flatMap_nil, List.append_nil] at hj
          have hjm := (List.getElem?_eq_some_iff.1 hj).1
          have := a4 _ c hj
          have e1 : ((cs.drop (k * m)).take m).getD (j - k * m) undef = cs.getD j undef := by
            rw [List.getD_eq_getElem?_getD, List.getElem?_take_of_lt (by omega), List.getElem?_drop, List.getD_eq_getElem?_getD]
            congr 2; omega
          rwa [e1] at this
  obtain ⟨l, h1, h0, h2, h3, h4⟩ := key n (Nat.le_refl _)
  exact ⟨l, ⟨h1, h2⟩, by rw [h0, hlen], h3, h4⟩
end Ab
