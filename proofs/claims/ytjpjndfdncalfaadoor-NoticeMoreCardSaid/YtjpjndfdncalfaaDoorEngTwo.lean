/-
  A layer of rules over the model: frames as data, regions by evaluation, contracts of functions. No statement of the program. Conditions: none.
-/
import Derived.Test.YtjpjndfdncalfaaDoorEngOne
import Derived.Lib.ConvBytes
import Derived.Deep.LoopGhost
import Derived.Deep.Quiet
import Derived.Deep.Slices
import Derived.ChangeArms
import Derived.WideShapes
import Derived.Orders
import Derived.OpenShut
import Derived.Lib.AppendIntMem
import Derived.Sort.Grow
import Derived.Lib.AtoiBound
import Derived.Shelf.Strings.Repeat
import Derived.StillTail
import Derived.RangeFuncNested
import Derived.RangeFuncBound
import Derived.RangeFuncLeaves
import Derived.Shelf.Abstract
import Derived.RangeFuncCalls
import Derived.Shelf.RegionOpen
import Derived.WalkKit
import Derived.OwnWalkIn
import Derived.TacticsInMore
import Derived.LoopNIn
import Derived.LoopIn
import Derived.Maps.AppendAt
import Derived.Lib.QuietBelowIn
import Derived.Tactics
import Derived.Tactics2
import Derived.Defers
import Derived.Laws.Pointers
import Derived.Laws.LoneSync
import Derived.RegionTactic
import Derived.RegionCalls
import Derived.ChangeAlike
import Derived.Laws.NewBlocks
import Derived.Handy
import Derived.Deep.WholeRow
import Derived.Laws.Cover3
import Derived.ArgAppend
import Derived.Deep.DeepCutAuto
import Derived.Deep.QuietTactic
import Derived.BigQuiet
import Derived.Lib.CountLaws
set_option linter.unusedVariables false
set_option linter.unusedSimpArgs false
namespace Ab
open Go Go.RowKit

/-- An element of which some cells are written. -/
def D.setc : D → Nat → List D → D
  | .agg ecs, off, cs => .agg (ecs.take off ++ cs ++ ecs.drop (off + cs.length))
  | e, _, cs => cs.headD e

theorem D.setc_cells {e : D} {off : Nat} {cs : List D} (h : off + cs.length ≤ e.cells.length) (hf : ∀ c ∈ cs, c.flat = true) :
    (e.setc off cs).cells = e.cells.take off ++ cs ++ e.cells.drop (off + cs.length) := by
  by_cases he : e.flat = true
  · rw [D.cells_flat he] at h ⊢
    have : e.setc off cs = cs.headD e := by cases e <;> first | rfl | (simp [D.flat] at he)
    rw [this]
    simp only [List.length_singleton] at h
    match cs, h, hf with
    | [], _, _ =>
      simp only [List.headD_nil, D.cells_flat he, List.append_nil, List.length_nil, Nat.add_zero]
      exact (List.take_append_drop off [e]).symm
    | [c], h, hf =>
      have : off = 0 := by simp at h; omega
      subst this
      simp [D.cells_flat (hf c (by simp))]
    | _ :: _ :: _, h, _ => simp at h; omega
  · cases e <;> first | (exfalso; exact he rfl) | rfl

def T.setOwn : T → Nat → List D → T
  | .own m z _, 0, es => .own m z es
  | .lent v m z _, 0, es => .lent v m z es
  | .box cs, i + 1, es => match cs[i]? with | some (.own m z _) => .box (cs.set i (.own m z es)) | _ => .box cs
  | t, _, _ => t

theorem setOwn_same {t : T} {i : Nat} {m : Bool} {z : D} {es es' : List D} (h : t.ownAt i = some (m, z, es)) : (t.setOwn i es').ownAt i = some (m, z, es') := by
  cases t with
  | own m0 z0 es0 =>
    cases i with
    | zero => simp [T.ownAt] at h; obtain ⟨rfl, rfl, _⟩ := h; rfl
    | succ i => simp [T.ownAt] at h
  | lent u m0 z0 es0 =>
    cases i with
    | zero => simp [T.ownAt] at h; obtain ⟨rfl, rfl, _⟩ := h; rfl
    | succ i => simp [T.ownAt] at h
  | box cs =>
    cases i with
    | zero => simp [T.ownAt] at h
    | succ i =>
      simp only [T.ownAt] at h
      cases hc : cs[i]? with
      | none => rw [hc] at h; simp at h
      | some c =>
        rw [hc] at h
        cases c with
        | d x => simp [C.own?] at h
        | own m0 z0 es0 =>
          simp [C.own?] at h; obtain ⟨rfl, rfl, _⟩ := h
          have hlt := (List.getElem?_eq_some_iff.1 hc).1
          simp only [T.setOwn, hc, T.ownAt]
          rw [List.getElem?_set_self hlt]; rfl
  | _ => simp [T.ownAt] at h

theorem setOwn_other {t : T} {i j : Nat} {es' : List D} (h : j ≠ i) : (t.setOwn i es').ownAt j = t.ownAt j := by
  cases t with
  | own m0 z0 es0 => cases i <;> cases j <;> first | rfl | (exact absurd rfl h)
  | lent u m0 z0 es0 => cases i <;> cases j <;> first | rfl | (exact absurd rfl h)
  | box cs =>
    cases i with
    | zero => rfl
    | succ i =>
      simp only [T.setOwn]
      split
      · cases j with
        | zero => rfl
        | succ j =>
          simp only [T.ownAt]
          rw [List.getElem?_set_ne (by omega)]
      · rfl
  | _ => rfl

section
variable {base : Nat} {S0 : Nat → Nat → Prop} {w0 : World} {N : Nat} {g : Nat → T} {a : Act} {w : World} {bk : Pl → Option Nat} {E : Env} {P : Program}

theorem RB.storeElem [Amb] (h : RB base S0 w0 N g a w bk) {p : Pl} {b i off : Nat} {z x : D} {es : List D} {v : Value} {arr : Array Value} {ty : TypeId} (ho : (g p.1).ownAt p.2 = some (true, z, es)) (hb : bk p = some b)
    (hh : HC w b arr ty) (hx : Rep w (stab base S0 g bk w.heap.size) x v) (hi : i < es.length) (hfit : off + x.cells.length ≤ z.cells.length) :
    RB base S0 w0 N (upd g p.1 ((g p.1).setOwn p.2 (es.set i ((es.getD i z).setc off x.cells)))) a
      (w.setRow b (arr.toList.take (i * z.cells.length + off) ++ v.cells.toList ++ arr.toList.drop (i * z.cells.length + off + v.cells.toList.length)).toArray) bk := by
  obtain ⟨k1, arr', ty', k2, k3, k4⟩ := h.own p true z es ho b hb
  obtain ⟨rfl, rfl⟩ := hh.det k2

  obtain ⟨x1, x2, x3⟩ := hx.cells
  have hvl : v.cells.toList.length = x.cells.length := by rw [Array.length_toList, x1]
  have hgi : es[i]? = some (es.getD i z) := by rw [List.getD_eq_getElem?_getD, List.getElem?_eq_getElem hi]; rfl
  have hei := k1 _ (List.mem_of_getElem? hgi)
  have hcl := D.setc_cells (e := es.getD i z) (off := off) (cs := x.cells) (by rw [hei.1]; exact hfit) x2
  have hil : (i + 1) * z.cells.length ≤ es.length * z.cells.length := Nat.mul_le_mul_right _ hi
  rw [Nat.add_mul] at hil
  have hfit' : i * z.cells.length + off + v.cells.toList.length ≤ arr.toList.length := by rw [hvl, Array.length_toList (xs := arr)]; omega

  have hoth : ∀ k, k ≠ b → (w.setRow b (arr.toList.take (i * z.cells.length + off) ++ v.cells.toList ++ arr.toList.drop (i * z.cells.length + off + v.cells.toList.length)).toArray).heap[k]? = w.heap[k]? := fun k hk => setRow_other w b k _ hk
  have hsz : ((arr.toList.take (i * z.cells.length + off) ++ v.cells.toList ++ arr.toList.drop (i * z.cells.length + off + v.cells.toList.length)).toArray).size = arr.size := by
    simp only [List.size_toArray, List.length_append, List.length_take, List.length_drop, Array.length_toList] at hfit' ⊢; omega
  have hset := hh.set hsz
  generalize hW : w.setRow b (arr.toList.take (i * z.cells.length + off) ++ v.cells.toList ++ arr.toList.drop (i * z.cells.length + off + v.cells.toList.length)).toArray = w' at hset hoth ⊢
  have hws : w'.heap.size = w.heap.size := by rw [← hW]; simp
  have hown : ∀ q, (upd g p.1 ((g p.1).setOwn p.2 (es.set i ((es.getD i z).setc off x.cells))) q.1).ownAt q.2 = if q = p then some (true, z, es.set i ((es.getD i z).setc off x.cells)) else (g q.1).ownAt q.2 := by
    intro q
    by_cases hq1 : q.1 = p.1
    · rw [hq1, upd_same]
      by_cases hq2 : q.2 = p.2
      · rw [hq2, if_pos (Prod.ext hq1 hq2), setOwn_same ho]
      · rw [if_neg (fun e => hq2 (by rw [e])), setOwn_other hq2]
    · rw [upd_ne _ _ hq1, if_neg (fun e => hq1 (by rw [e]))]
  have hS : ∀ c o, stab base S0 g bk w.heap.size c o → stab base S0 (upd g p.1 ((g p.1).setOwn p.2 (es.set i ((es.getD i z).setc off x.cells)))) bk w'.heap.size c o := by
    intro c o hs
    rcases hs with hs | ⟨h1, h2, h3⟩
    · exact .inl hs
    · refine .inr ⟨h1, by omega, fun q hq => ?_⟩
      have h4 := h3 q hq
      rw [hown q]
      split
      · rename_i hqp; subst hqp; rw [ho] at h4; simp [limOf] at h4
      · exact h4
  have hnb : ∀ o, ¬ stab base S0 g bk w.heap.size b o := by
    intro o hs
    rcases hs with hs | ⟨h1, h2, h3⟩
    · have := (h.rng _ _ hb).1; omega
    · have := h3 p hb
      rw [ho] at this; simp [limOf] at this
  have hcs : ∀ c o, stab base S0 g bk w.heap.size c o → w'.cell? (at' c o) = w.cell? (at' c o) := fun c o hs => World.cell?_of_block (w := w) (hoth c (fun e => hnb o (e ▸ hs)))
  have hsame : ∀ c, Same w w' c := by
    intro c arr2 ty2 hc2
    by_cases hc : c = b
    · subst hc
      obtain ⟨rfl, rfl⟩ := hh.det hc2
      exact ⟨_, hset, hsz⟩
    · exact ⟨arr2, hc2.of (hoth c hc), rfl⟩
  have hboxs : ∀ cs', (upd g p.1 ((g p.1).setOwn p.2 (es.set i ((es.getD i z).setc off x.cells))) p.1).box? = some cs' →
      ∃ cs, g p.1 = .box cs ∧ ∃ j, p.2 = j + 1 ∧ cs[j]? = some (.own true z es) ∧ cs' = cs.set j (.own true z (es.set i ((es.getD i z).setc off x.cells))) := by
    intro cs' hb'
    rw [upd_same] at hb'
    cases hgp : g p.1 with
    | box cs =>
      rw [hgp] at ho hb'
      cases hp2 : p.2 with
      | zero => rw [hp2] at ho; simp [T.ownAt] at ho
      | succ j =>
        rw [hp2] at ho hb'
        simp only [T.ownAt] at ho
        cases hc : cs[j]? with
        | none => rw [hc] at ho; simp at ho
        | some c =>
          rw [hc] at ho
          cases c with
          | d y => simp [C.own?] at ho
          | own m0 z0 es0 =>
            simp [C.own?] at ho; obtain ⟨rfl, rfl, rfl⟩ := ho
            simp only [T.setOwn, hc, T.box?, Option.some.injEq] at hb'
            exact ⟨cs, rfl, j, rfl, hc, hb'.symm⟩
    | own m0 z0 es0 =>
      rw [hgp] at hb' ho
      cases hp2 : p.2 with
      | zero => rw [hp2] at hb'; simp [T.setOwn, T.box?] at hb'
      | succ j => rw [hp2] at ho; simp [T.ownAt] at ho
    | lent u m0 z0 es0 =>
      rw [hgp] at hb' ho
      cases hp2 : p.2 with
      | zero => rw [hp2] at hb'; simp [T.setOwn, T.box?] at hb'
      | succ j => rw [hp2] at ho; simp [T.ownAt] at ho
    | _ => rw [hgp] at ho; simp [T.ownAt] at ho
  refine h.coreG (fun s' => s' = p.1) h.defers h.size (fun _ _ => rfl) (fun s' hs' => upd_ne _ _ hs') ?_
    (fun q c hq => by rw [hws]; exact h.rng q c hq) h.inj hcs hS (fun _ _ => rfl) (fun q c hq hc => hoth c (fun e => hq (by rw [h.inj q p c hc (e ▸ hb)]))) (fun s' hs' r hr hch => ?_) (fun s' hs' => ?_) (fun s' hs' j m' z' es' hoj c hc => ?_) (fun s' hs' cs' hbx => ?_)
  · rw [← hW]; exact ⟨rfl, rfl, rfl, by simp, fun k hk => by rw [hW]; exact hoth k (fun e => by have := (h.rng _ _ hb).1; omega)⟩
  · subst hch
    refine ⟨fun j m' z' es' hoj => ?_, fun cs' hb' => ?_⟩
    · have h5 := hown (p.1, j)
      simp only at h5
      rw [h5] at hoj
      split at hoj
      · rename_i hjp
        simp only [Option.some.injEq, Prod.mk.injEq] at hoj; obtain ⟨rfl, rfl, rfl⟩ := hoj
        refine ⟨true, es, ?_, by simp, rfl, fun c _ => hsame c⟩
        rw [show j = p.2 from by rw [← hjp]]; exact ho
      · exact ⟨m', es', hoj, rfl, rfl, fun c _ => hsame c⟩
    · obtain ⟨cs, h6, _⟩ := hboxs cs' hb'
      exact ⟨cs, by rw [h6]; rfl, rfl⟩
  · subst hs'
    have h0 := h.slots p.1
    cases hgp : g p.1 with
    | box cs =>
      rw [hgp] at h0
      rw [upd_same]
      obtain ⟨b2, e1, e2⟩ := h0
      have : ∃ cs', (T.box cs).setOwn p.2 (es.set i ((es.getD i z).setc off x.cells)) = .box cs' := by
        cases p.2 with
        | zero => exact ⟨cs, rfl⟩
        | succ j => simp only [T.setOwn]; split <;> exact ⟨_, rfl⟩
      obtain ⟨cs', hcs'⟩ := this
      rw [hcs']
      exact ⟨b2, e1, e2⟩
    | own m0 z0 es0 =>
      rw [hgp] at h0 ho
      rw [upd_same]
      cases hp2 : p.2 with
      | zero =>
        rw [hp2] at ho
        simp only [T.ownAt, Option.some.injEq, Prod.mk.injEq] at ho; obtain ⟨rfl, rfl, rfl⟩ := ho
        show Hdr w' (bk (p.1, 0)) _ (es0.set i _).length _
        rw [List.length_set]
        exact Hdr.same h0 (fun c _ => hsame c)
      | succ j => rw [hp2] at ho; simp [T.ownAt] at ho
    | lent u m0 z0 es0 =>
      rw [hgp] at h0 ho
      rw [upd_same]
      cases hp2 : p.2 with
      | zero =>
        rw [hp2] at ho
        simp only [T.ownAt, Option.some.injEq, Prod.mk.injEq] at ho; obtain ⟨rfl, rfl, rfl⟩ := ho
        show Hdr w' (bk (p.1, 0)) _ (es0.set i _).length _
        rw [List.length_set]
        exact Hdr.same h0 (fun c _ => hsame c)
      | succ j => rw [hp2] at ho; simp [T.ownAt] at ho
    | _ => rw [hgp] at ho; simp [T.ownAt] at ho
  · subst hs'
    have h5 := hown (p.1, j)
    simp only at h5
    rw [h5] at hoj
    split at hoj
    · rename_i hjp
      simp only [Option.some.injEq, Prod.mk.injEq] at hoj; obtain ⟨rfl, rfl, rfl⟩ := hoj
      rw [hjp, hb] at hc; simp only [Option.some.injEq] at hc; subst hc
      refine ⟨fun e he => ?_, _, ty, hset, by rw [hsz, List.length_set]; exact k3, fun i' e j' c' he hj => ?_⟩
      · rcases List.mem_or_eq_of_mem_set he with he | rfl
        · exact k1 e he
        · rw [hcl]
          refine ⟨by simp only [List.length_append, List.length_take, List.length_drop, hei.1]; omega, fun c' hc' => ?_⟩
          simp only [List.mem_append] at hc'
          rcases hc' with (hc' | hc') | hc'
          · exact hei.2 c' (List.mem_of_mem_take hc')
          · exact x2 c' hc'
          · exact hei.2 c' (List.mem_of_mem_drop hc')
      · rw [set_get hfit', hvl]
        have hjl := (List.getElem?_eq_some_iff.1 hj).1
        rw [List.getElem?_set] at he
        split at he
        · rename_i hii
          subst hii
          simp only [Option.some.injEq] at he; subst he
          rw [hcl] at hj hjl
          have hlen : (List.take off (es.getD i z).cells ++ x.cells ++ List.drop (off + x.cells.length) (es.getD i z).cells).length = z.cells.length := by simp only [List.length_append, List.length_take, List.length_drop, hei.1]; omega
          rw [hlen] at hjl
          by_cases c1 : j' < off
          · rw [if_neg (by omega)]
            rw [List.getElem?_append_left (by simp only [List.length_append, List.length_take, hei.1]; omega), List.getElem?_append_left (by simp only [List.length_take, hei.1]; omega), List.getElem?_take, if_pos c1] at hj
            exact (k4 i _ j' c' hgi hj).mono hcs hS
          · by_cases c2 : j' < off + x.cells.length
            · rw [if_pos (by omega)]
              rw [List.getElem?_append_left (by simp only [List.length_append, List.length_take, hei.1]; omega), List.getElem?_append_right (by simp only [List.length_take, hei.1]; omega), show (List.take off (es.getD i z).cells).length = off by simp only [List.length_take, hei.1]; omega] at hj
              have h6 := x3 _ _ hj
              have e7 : v.cells.toList.getD (j' - off) undef = v.cells.getD (j' - off) undef := by rw [List.getD_eq_getElem?_getD, Array.getElem?_toList, ← Array.getD_eq_getD_getElem?]
              rw [show i * z.cells.length + j' - (i * z.cells.length + off) = j' - off by omega, e7]
              exact h6.mono hcs hS
            · rw [if_neg (by omega)]
              rw [List.getElem?_append_right (by simp only [List.length_append, List.length_take, hei.1]; omega), List.getElem?_drop, show off + x.cells.length + (j' - (List.take off (es.getD i z).cells ++ x.cells).length) = j' by simp only [List.length_append, List.length_take, hei.1]; omega] at hj
              exact (k4 i _ j' c' hgi hj).mono hcs hS
        · rename_i hii
          have hei' := (k1 e (List.mem_of_getElem? he)).1
          rw [if_neg]
          · exact (k4 i' e j' c' he hj).mono hcs hS
          · intro hcon
            rcases Nat.lt_or_gt_of_ne hii with hlt | hlt
            · have : (i + 1) * z.cells.length ≤ i' * z.cells.length := Nat.mul_le_mul_right _ hlt
              rw [Nat.add_mul] at this; omega
            · have : (i' + 1) * z.cells.length ≤ i * z.cells.length := Nat.mul_le_mul_right _ hlt
              rw [Nat.add_mul] at this; omega
    · have hne : c ≠ b := fun e => by have := h.inj (p.1, j) p c hc (e ▸ hb); rename_i hjp; exact hjp this
      exact (h.own (p.1, j) m' z' es' hoj c hc).mono (hoth c hne) hcs hS
  · subst hs'
    obtain ⟨cs, h6, j, h7, h8, rfl⟩ := hboxs cs' hbx
    obtain ⟨b2, arr2, ty2, e1, e2, e3, e4⟩ := h.box p.1 cs (by rw [h6]; rfl)
    have hne : b2 ≠ b := fun e => by subst e; have := congrArg Prod.snd (h.inj (p.1, 0) p b2 e1 hb); simp [h7] at this
    refine ⟨b2, arr2, ty2, e1, (hoth b2 hne).trans e2, by simpa using e3, fun i' c hi' => ?_⟩
    rw [List.getElem?_set] at hi'
    split at hi'
    · rename_i hii
      subst hii
      split at hi'
      · simp only [Option.some.injEq] at hi'; subst hi'
        have h9 := e4 _ _ h8
        show Hdr w' _ _ (es.set i _).length _
        rw [List.length_set]
        exact Hdr.same h9 (fun c _ => hsame c)
      · cases hi'
    · exact (e4 _ _ hi').mono hcs hS (fun c _ => hsame c)
end
/-! ### A row goes over into a cell of a local variable -/
/-- What place p owns in g' it owned in g. -/
def PlOk (w w' : World) (bk bk' : Pl → Option Nat) (g g' : Nat → T) (p : Pl) : Prop :=
  ∀ m z es, (g' p.1).ownAt p.2 = some (m, z, es) → ∃ m0 es0, (g p.1).ownAt p.2 = some (m0, z, es0) ∧ es0.length = es.length ∧ bk' p = bk p ∧ ∀ b, bk p = some b → Same w w' b
def BxOk (bk bk' : Pl → Option Nat) (g g' : Nat → T) (r : Nat) : Prop :=
  ∀ cs, (g' r).box? = some cs → ∃ cs0, (g r).box? = some cs0 ∧ bk' (r, 0) = bk (r, 0)
def RefOk (w w' : World) (bk bk' : Pl → Option Nat) (g g' : Nat → T) : T → Prop
  | .alias p => PlOk w w' bk bk' g g' p
  | .optr p _ _ => PlOk w w' bk bk' g g' p
  | .ptr r _ => BxOk bk bk' g g' r
  | .opt _ t => RefOk w w' bk bk' g g' t
  | _ => True
def T.hasPl (q : Pl) : T → Bool
  | .alias p => p.1 == q.1 && p.2 == q.2
  | .optr p _ _ => p.1 == q.1 && p.2 == q.2
  | .opt _ t => t.hasPl q
  | .junk => false
  | .nils => false
  | .val _ => false
  | .box _ => false
  | .own .. => false
  | .lent .. => false
  | .tup _ => false
  | .ptr .. => false

theorem RT.frameP {w w' : World} {S S' : Nat → Nat → Prop} {bk bk' : Pl → Option Nat} {g g' : Nat → T} {s s' : Nat} {v : Value}
    (hc : ∀ b o, S b o → w'.cell? (at' b o) = w.cell? (at' b o)) (hS : ∀ b o, S b o → S' b o) :
    ∀ {t : T}, RT w S bk g s t v → (t.plain = false → bk' (s', 0) = bk (s, 0) ∧ ∀ b, bk (s, 0) = some b → Same w w' b) → RefOk w w' bk bk' g g' t → RT w' S' bk' g' s' t v
  | .junk, _, _, _ => trivial
  | .nils, h, _, _ => h
  | .val d, h, _, _ => Rep.mono h hc hS
  | .opt gs t, h, hp, hr => ⟨fun hg => RT.frameP hc hS (h.1 hg) (by simpa [T.plain] using hp) hr, h.2⟩
  | .box cs, h, hp, _ => by
    obtain ⟨b, h1, h2⟩ := h
    exact ⟨b, (hp rfl).1.trans h1, h2⟩
  | .own m sz es, h, hp, _ => by
    show Hdr w' (bk' (s', 0)) sz.cells.length es.length _
    rw [(hp rfl).1]
    exact Hdr.same h (hp rfl).2
  | .lent u m sz es, h, hp, _ => by
    show Hdr w' (bk' (s', 0)) sz.cells.length es.length _
    rw [(hp rfl).1]
    exact Hdr.same h (hp rfl).2
  | .tup ds, h, _, _ => by
    obtain ⟨arr, h1, h2, h3⟩ := h
    exact ⟨arr, h1, h2, fun i d hi => (h3 i d hi).mono hc hS⟩
  | .alias p, h, _, hr => by
    intro m sz es ho
    obtain ⟨m0, es0, h1, h2, h3, h4⟩ := hr m sz es ho
    have := h m0 sz es0 h1
    rw [h2] at this
    rw [show bk' p = bk p from h3]
    exact this.same h4
  | .ptr r off, h, _, hr => by
    intro cs hb
    obtain ⟨cs0, h1, h2⟩ := hr cs hb
    obtain ⟨b, h3, h4⟩ := h cs0 h1
    exact ⟨b, h2.trans h3, h4⟩
  | .optr p i off, h, _, hr => by
    intro m sz es ho
    obtain ⟨m0, es0, h1, _, h3, _⟩ := hr m sz es ho
    obtain ⟨b, h5, h6⟩ := h m0 sz es0 h1
    exact ⟨b, (show bk' p = bk p from h3).trans h5, h6⟩

theorem RefOk.all {w w' : World} {bk bk' : Pl → Option Nat} {g g' : Nat → T} {q : Pl} (h1 : ∀ p, p ≠ q → PlOk w w' bk bk' g g' p) (h2 : ∀ r, BxOk bk bk' g g' r) : ∀ {t : T}, t.hasPl q = false → RefOk w w' bk bk' g g' t
  | .junk, _ | .nils, _ | .val _, _ | .box _, _ | .own .., _ | .lent .., _ | .tup _, _ => trivial
  | .alias p, h => h1 p (fun e => by subst e; simp [T.hasPl] at h)
  | .optr p _ _, h => h1 p (fun e => by subst e; simp [T.hasPl] at h)
  | .ptr r _, _ => h2 r
  | .opt _ t, h => RefOk.all (t := t) h1 h2 h

section
variable {base : Nat} {S0 : Nat → Nat → Prop} {w0 : World} {N : Nat} {g : Nat → T} {a : Act} {w : World} {bk : Pl → Option Nat} {E : Env}

theorem oneCell_cells {v : Value} (h : v.oneCell' = true) : v.cells = #[v] := by cases v <;> first | rfl | (simp [Value.oneCell'] at h)

theorem Hdr.one {w : World} {ob : Option Nat} {sz n : Nat} {v : Value} (h : Hdr w ob sz n v) : v.oneCell' = true := by
  rcases h with ⟨_, a, rfl⟩ | ⟨b, cap, arr, ty, _, rfl, _⟩ <;> rfl

/-- The row that slot q owns goes over into cell 'off' of slot s's variable. -/
theorem RB.storeOwn [Amb] (h : RB base S0 w0 N g a w bk) {s q off b : Nat} {cs : List C} {m : Bool} {z : D} {es : List D} {v : Value} {arr : Array Value} {ty : TypeId} (hg : (g s).box? = some cs) (hb : bk (s, 0) = some b) (hh : w.heap[b]? = some (.cells arr ty (0, 0)))
    (hq : g q = .own m z es) (hv : Hdr w (bk (q, 0)) z.cells.length es.length v) (hfit : off < cs.length) (hsq : q ≠ s) (hno : ∀ r, (g r).hasPl (s, off + 1) = false) :
    ∃ bk', RB base S0 w0 N (upd (upd g q (leftT m z es)) s (.box (cs.set off (.own m z es)))) a (w.setRow b (arr.toList.take off ++ v.cells.toList ++ arr.toList.drop (off + v.cells.toList.length)).toArray) bk' := by
  obtain ⟨b', arr', ty', k1, k2, k3, k4⟩ := h.box s cs hg
  obtain rfl : b = b' := by rw [hb] at k1; simpa using k1
  rw [hh] at k2
  obtain ⟨rfl, rfl⟩ : arr = arr' ∧ ty = ty' := by simpa using k2
  have hvc : v.cells.toList = [v] := by rw [oneCell_cells hv.one]
  rw [hvc]
  have hfit' : off + [v].length ≤ arr.toList.length := by rw [Array.length_toList (xs := arr), k3, List.length_singleton]; omega
  have hset := setRow_heap w b arr (arr.toList.take off ++ [v] ++ arr.toList.drop (off + [v].length)).toArray ty _ hh
  have hoth : ∀ k, k ≠ b → (w.setRow b (arr.toList.take off ++ [v] ++ arr.toList.drop (off + [v].length)).toArray).heap[k]? = w.heap[k]? := fun k hk => setRow_other w b k _ hk
  have hsz : (w.setRow b (arr.toList.take off ++ [v] ++ arr.toList.drop (off + [v].length)).toArray).heap.size = w.heap.size := by simp
  have hbel : Below base w (w.setRow b (arr.toList.take off ++ [v] ++ arr.toList.drop (off + [v].length)).toArray) := ⟨rfl, rfl, rfl, by simp, fun k hk => hoth k (fun e => by have := (h.rng _ _ hb).1; omega)⟩
  generalize (w.setRow b (arr.toList.take off ++ [v] ++ arr.toList.drop (off + [v].length)).toArray) = w' at *
  let bk' : Pl → Option Nat := fun p => if p = (s, off + 1) then bk (q, 0) else if p.1 = q then none else bk p
  let g' : Nat → T := upd (upd g q (leftT m z es)) s (.box (cs.set off (.own m z es)))
  have gs : g' s = .box (cs.set off (.own m z es)) := upd_same _ _ _
  have gq : g' q = leftT m z es := by show upd (upd g q (leftT m z es)) s _ q = _; rw [upd_ne _ _ hsq, upd_same]
  have go : ∀ r, r ≠ s → r ≠ q → g' r = g r := fun r h1 h2 => by show upd (upd g q (leftT m z es)) s _ r = _; rw [upd_ne _ _ h1, upd_ne _ _ h2]
  have hb' : ∀ p c, bk' p = some c → (p = (s, off + 1) ∧ bk (q, 0) = some c) ∨ (p ≠ (s, off + 1) ∧ p.1 ≠ q ∧ bk p = some c) := fun p c hc => by
    simp only [bk'] at hc
    split at hc
    · exact .inl ⟨by assumption, hc⟩
    · split at hc
      · cases hc
      · exact .inr ⟨by assumption, by assumption, hc⟩
  have bs0 : bk' (s, 0) = some b := by simp only [bk']; rw [if_neg (by simp), if_neg (Ne.symm hsq)]; exact hb
  have hqo : (g q).ownAt 0 = some (m, z, es) := by rw [hq]; rfl
  have hS : ∀ c o, stab base S0 g bk w.heap.size c o → stab base S0 g' bk' w'.heap.size c o := by
    intro c o hs
    rcases hs with hs | ⟨h1, h2, h3⟩
    · exact .inl hs
    · refine .inr ⟨h1, by rw [hsz]; exact h2, fun p hp => ?_⟩
      rcases hb' p c hp with ⟨rfl, e2⟩ | ⟨e1, e2, e3⟩
      · have := h3 (q, 0) e2
        rw [show ((q, 0) : Pl).1 = q from rfl, show ((q, 0) : Pl).2 = 0 from rfl, hqo] at this
        show o < limOf ((g' s).ownAt (off + 1))
        rw [gs]
        simp only [T.ownAt, List.getElem?_set_self hfit, Option.bind_some, C.own?]
        exact this
      · have h4 := h3 p e3
        by_cases hps : p.1 = s
        · obtain ⟨p1, p2⟩ := p
          simp only at hps; subst hps
          show o < limOf ((g' p1).ownAt p2)
          rw [gs]
          simp only at h4
          rw [box_eq hg] at h4
          cases p2 with
          | zero => exact h4
          | succ i =>
            simp only [T.ownAt] at h4 ⊢
            rw [List.getElem?_set_ne (fun e => e1 (by rw [e]))]
            exact h4
        · rw [go _ hps e2]; exact h4
  have hnb : ∀ o, ¬ stab base S0 g bk w.heap.size b o := by
    intro o hs
    rcases hs with hs | ⟨h1, h2, h3⟩
    · have := (h.rng _ _ hb).1; omega
    · have := h3 (s, 0) hb
      simp only at this
      rw [box_eq hg] at this; simp [T.ownAt, limOf] at this
  have hcs : ∀ c o, stab base S0 g bk w.heap.size c o → w'.cell? (at' c o) = w.cell? (at' c o) := by
    intro c o hs
    exact World.cell?_of_block (w := w) (hoth c (fun e => hnb o (e ▸ hs)))
  have hsame : ∀ c, Same w w' c := by
    intro c arr2 ty2 hc2
    by_cases hc : c = b
    · subst hc
      obtain ⟨rfl, rfl⟩ := HC.det (.inl hh) hc2
      refine ⟨_, .inl hset, ?_⟩
      simp only [List.size_toArray, List.length_append, List.length_take, List.length_drop, Array.length_toList, List.length_cons, List.length_nil] at hfit' ⊢; omega
    · exact ⟨arr2, hc2.of (hoth c hc), rfl⟩
  have hpl : ∀ p, p ≠ (s, off + 1) → PlOk w w' bk bk' g g' p := by
    intro p hp m1 z1 es1 ho
    by_cases hps : p.1 = s
    · obtain ⟨p1, p2⟩ := p
      simp only at hps; subst hps
      simp only at ho
      rw [gs] at ho
      cases p2 with
      | zero => simp [T.ownAt] at ho
      | succ i =>
        have hio : off ≠ i := fun e => hp (by rw [e])
        simp only [T.ownAt] at ho
        rw [List.getElem?_set_ne hio] at ho
        refine ⟨m1, es1, by simp only; rw [box_eq hg]; exact ho, rfl, ?_, fun c _ => hsame c⟩
        simp only [bk']; rw [if_neg hp, if_neg (Ne.symm hsq)]
    · by_cases hpq : p.1 = q
      · rw [hpq, gq, plain_own (leftT_plain m z es)] at ho; cases ho
      · rw [go _ hps hpq] at ho
        refine ⟨m1, es1, ho, rfl, ?_, fun c _ => hsame c⟩
        simp only [bk']; rw [if_neg hp, if_neg hpq]
  have hbx : ∀ r, BxOk bk bk' g g' r := by
    intro r cs1 hc1
    by_cases hrs : r = s
    · subst hrs; exact ⟨cs, hg, bs0.trans hb.symm⟩
    · by_cases hrq : r = q
      · subst hrq; rw [gq, plain_box (leftT_plain m z es)] at hc1; cases hc1
      · rw [go _ hrs hrq] at hc1
        exact ⟨cs1, hc1, by simp only [bk']; rw [if_neg (fun e => hrs (by rw [Prod.mk.injEq] at e; exact e.1)), if_neg hrq]⟩
  have hrow : ∀ c, bk (q, 0) = some c → c ≠ b := fun c hc e => by
    have := h.inj (q, 0) (s, 0) c hc (e ▸ hb); rw [Prod.mk.injEq] at this; exact hsq this.1
  refine ⟨bk', ⟨h.defers, h.size, h.hb, h.below.trans hbel, fun p c hp => ?_, fun p p' c hp hp' => ?_, fun r => ?_, fun p m1 z1 es1 ho c hc => ?_, fun r cs1 hc1 => ?_, h.amb⟩⟩
  · rw [hsz]
    rcases hb' p c hp with ⟨_, e⟩ | ⟨_, _, e⟩ <;> exact h.rng _ c e
  · rcases hb' p c hp with ⟨e1, e2⟩ | ⟨e1, e2, e3⟩ <;> rcases hb' p' c hp' with ⟨f1, f2⟩ | ⟨f1, f2, f3⟩
    · rw [e1, f1]
    · exact absurd (by rw [← h.inj _ _ c e2 f3]) f2
    · exact absurd (by rw [h.inj _ _ c e3 f2]) e2
    · exact h.inj p p' c e3 f3
  · have h0 := h.slots r
    show RT w' (stab base S0 g' bk' w'.heap.size) bk' g' r (g' r) (a.tmps.getD r undef)
    by_cases hrs : r = s
    · subst hrs
      rw [gs]
      rw [box_eq hg] at h0
      obtain ⟨b2, e1, e2⟩ := h0
      exact ⟨b2, bs0.trans (hb.symm.trans e1), e2⟩
    · by_cases hrq : r = q
      · subst hrq
        rw [gq]
        cases m with
        | true => trivial
        | false =>
          rw [hq] at h0
          have hr := own_rep h (p := (r, 0)) hqo h0
          exact Rep.mono hr hcs hS
      · rw [go _ hrs hrq]
        refine RT.frameP hcs hS h0 (fun _ => ⟨?_, fun c _ => hsame c⟩) (RefOk.all hpl hbx (hno r))
        simp only [bk']; rw [if_neg (fun e => hrs (by rw [Prod.mk.injEq] at e; exact e.1)), if_neg hrq]
  · rcases hb' p c hc with ⟨rfl, e2⟩ | ⟨e1, e2, e3⟩
    · replace ho : (g' s).ownAt (off + 1) = some (m1, z1, es1) := ho
      rw [gs] at ho
      simp only [T.ownAt, List.getElem?_set_self hfit, Option.bind_some, C.own?, Option.some.injEq, Prod.mk.injEq] at ho
      obtain ⟨rfl, rfl, rfl⟩ := ho
      exact (h.own (q, 0) m z es hqo c e2).mono (hoth c (hrow c e2)) hcs hS
    · obtain ⟨m0, es0, j1, j2, j3, _⟩ := hpl p e1 m1 z1 es1 ho
      by_cases hps : p.1 = s
      · obtain ⟨p1, p2⟩ := p
        simp only at hps; subst hps
        replace ho : (g' p1).ownAt p2 = some (m1, z1, es1) := ho
        rw [gs] at ho
        cases p2 with
        | zero => simp [T.ownAt] at ho
        | succ i =>
          have hio : off ≠ i := fun e => e1 (by rw [e])
          simp only [T.ownAt] at ho
          rw [List.getElem?_set_ne hio] at ho
          have hne : c ≠ b := fun e => by have := h.inj (p1, i + 1) (p1, 0) c e3 (e ▸ hb); simp at this
          exact (h.own (p1, i + 1) m1 z1 es1 (by simp only; rw [box_eq hg]; exact ho) c e3).mono (hoth c hne) hcs hS
      · replace ho : (g' p.1).ownAt p.2 = some (m1, z1, es1) := ho
        rw [go _ hps e2] at ho
        have hne : c ≠ b := fun e => by have := h.inj p (s, 0) c e3 (e ▸ hb); exact hps (by rw [this])
        exact (h.own p m1 z1 es1 ho c e3).mono (hoth c hne) hcs hS
  · replace hc1 : (g' r).box? = some cs1 := hc1
    by_cases hrs : r = s
    · subst hrs
      rw [gs] at hc1
      simp only [T.box?, Option.some.injEq] at hc1; subst hc1
      refine ⟨b, _, ty, bs0, hset, ?_, fun i c hi => ?_⟩
      · rw [List.length_set, ← k3]
        simp only [List.size_toArray, List.length_append, List.length_take, List.length_drop, Array.length_toList, List.length_cons, List.length_nil] at hfit' ⊢; omega
      · rw [set_get hfit']
        by_cases hio : i = off
        · subst hio
          rw [List.getElem?_set_self hfit] at hi
          cases hi
          rw [if_pos (by simp), Nat.sub_self]
          show Hdr w' (bk' (r, i + 1)) _ _ _
          simp only [bk', if_true]
          exact hv.same fun c _ => hsame c
        · rw [List.getElem?_set_ne (Ne.symm hio)] at hi
          rw [if_neg (by simp; omega)]
          have : bk' (r, i + 1) = bk (r, i + 1) := by simp only [bk']; rw [if_neg (by simp; omega), if_neg (Ne.symm hsq)]
          rw [this]
          exact (k4 i c hi).mono hcs hS (fun c _ => hsame c)
    · by_cases hrq : r = q
      · subst hrq; rw [gq, plain_box (leftT_plain m z es)] at hc1; cases hc1
      · rw [go _ hrs hrq] at hc1
        obtain ⟨b2, arr2, ty2, e1, e2, e3, e4⟩ := h.box r cs1 hc1
        have hne : b2 ≠ b := fun e => by subst e; have := h.inj (r, 0) (s, 0) b2 e1 hb; rw [Prod.mk.injEq] at this; exact hrs this.1
        have hk : ∀ i, bk' (r, i) = bk (r, i) := fun i => by simp only [bk']; rw [if_neg (fun e => hrs (by rw [Prod.mk.injEq] at e; exact e.1)), if_neg hrq]
        refine ⟨b2, arr2, ty2, (hk 0).trans e1, (hoth b2 hne).trans e2, e3, fun i c hi => ?_⟩
        rw [hk]
        exact (e4 i c hi).mono hcs hS (fun c _ => hsame c)
end
end Ab

namespace Ab
open Go Go.RowKit

/-! ### Contracts -/
inductive RetT where
  | d (x : D)
  | own (z : D) (es : List D)
  | tup (ds : List D)

/-- The cells that stay behind a call: those that stayed ahead of it, and the new ones, but for a row that is handed over. -/
def stayed (w w' : World) (S : Nat → Nat → Prop) (ob : Option Nat) (b o : Nat) : Prop := (b < w.heap.size ∧ S b o) ∨ (w.heap.size ≤ b ∧ b < w'.heap.size ∧ ob ≠ some b)

def RetRel (w w' : World) (S : Nat → Nat → Prop) : RetT → Value → Prop
  | .d x, v => Rep w' (stayed w w' S none) x v
  | .tup ds, v => ∃ arr, v = .tuple arr ∧ arr.size = ds.length ∧ ∀ i d, ds[i]? = some d → Rep w' (stayed w w' S none) d (arr.getD i undef)
  | .own z es, v => ∃ ob, Hdr w' ob z.cells.length es.length v ∧ ∀ b, ob = some b → w.heap.size ≤ b ∧ b < w'.heap.size ∧ Cont w' (stayed w w' S ob) b z.cells.length es

def FnOk (P : Program) (f : FuncId) : Prop := ∃ fn, P.funcs[f]? = some fn ∧ (fn.name == "runtime.NumGoroutine") = false ∧ fn.body.isSome = true

/-- THE CONTRACT: called with these data, function f hands back this; nothing that was there turns. -/
def ACalls [Amb] (P : Program) (f : FuncId) (args : List D) (r : RetT) : Prop :=
  FnOk P f ∧ ∀ (w : World) (S : Nat → Nat → Prop) (vs : Array Value), Amb.G w S → (∀ b o, S b o → b < w.heap.size) → vs.size = args.length → (∀ i d, args[i]? = some d → Rep w S d (vs.getD i undef)) →
    Calls P f vs w fun e w' => ∃ v, e = .returned v ∧ Below w.heap.size w w' ∧ RetRel w w' S r v

/-! ### One operation after the other -/
def frzS (σ : St) : List Nat → St
  | [] => σ
  | s :: r => frzS ((s, (σ.get s).frz) :: σ) r

def guardL (ops : Array Oper) (σ : St) (o : Oper) : Option (List Bool) :=
  match o.guard with
  | none => some []
  | some (j, want) =>
    match (ops[j]?).bind (·.dst) with
    | some s =>
      match σ.get s with
      | .val (.bool b) => some [if want then b else !b]
      | .opt gs (.val (.bool b)) => some ((if want then b else !b) :: gs)
      | _ => none
    | none => none

def optw : List Bool → T → T
  | [], t => t
  | g :: gs, t => .opt (g :: gs) t

def norefs (σ : St) (d : Nat) : Bool := σ.all fun p => p.1 == d || !(p.2.refs.contains d)

def noplace (σ : St) (q : Pl) : Bool := σ.all fun p => !(p.2.hasPl q)

/-- A row that is stored into a cell of a local variable goes over to it. -/
def movS (σ : St) (s off : Nat) : T → Option (Nat × D × List D)
  | .alias (q, 0) => match σ.get q with | .own true z es => if (q != s && noplace σ (s, off + 1)) = true then some (q, z, es) else none | _ => none
  | .alias (_, _ + 1) => none
  | .junk => none
  | .nils => none
  | .val _ => none
  | .opt _ _ => none
  | .box _ => none
  | .own .. => none
  | .lent .. => none
  | .tup _ => none
  | .ptr .. => none
  | .optr .. => none

def fin (N : Nat) (dst : Option Nat) (gs : List Bool) (σ : St) (t : T) (K : St → Prop) : Prop :=
  match dst with
  | some d => d < N ∧ K ((d, optw gs t) :: σ)
  | none => K σ

/-- A slot that owns a row, written with its own head. -/
def selfA (σ : St) (d : Nat) : T → Bool
  | .alias p => p.1 == d && (p.2 == 0 && (match σ.get d with | .own .. => true | _ => false))
  | .junk => false
  | .nils => false
  | .val _ => false
  | .opt _ _ => false
  | .box _ => false
  | .own .. => false
  | .lent .. => false
  | .tup _ => false
  | .ptr .. => false
  | .optr .. => false
def finA (N : Nat) (dst : Option Nat) (gs : List Bool) (σ : St) (t : T) (K : St → Prop) : Prop :=
  match gs, dst with
  | [], some d => if selfA σ d t = true then d < N ∧ K σ else fin N (some d) [] σ t K
  | gs, dst => fin N dst gs σ t K

def newO (N : Nat) (dst : Option Nat) (σ : St) (t : T) (K : St → Prop) : Prop :=
  match dst with
  | some d => d < N ∧ norefs σ d = true ∧ K ((d, t) :: σ)
  | none => False

def Env.hints (E : Env) : List TypeId → List Operand → List (D × Operand)
  | t :: ts, x :: xs => (E.elemZ t, x) :: Env.hints E ts xs
  | [], x :: xs => (.bool false, x) :: Env.hints E [] xs
  | _, [] => []

def sliceParts (z : D) : List D → List (Nat × D) → List D
  | es, [] => es
  | es, (i, d) :: r => sliceParts z (es.set i d) r

def boxOf (E : Env) (ti : TI) : List C :=
  match ti.key with
  | .slice e => [.own true (E.zd e) []]
  | _ => ti.zc.map .d

/-- Captured variables: their cells stay from here on. -/
def sealS (N : Nat) : St → List Operand → Option (St × List D)
  | σ, [] => some (σ, [])
  | σ, .tmp s :: r =>
    match σ.get s with
    | .box cs =>
      if s < N ∧ cs.any C.mut = false then
        match sealS N ((s, .val (.ref (cs.map C.dat))) :: σ) r with
        | some (σ', ds) => some (σ', .ref (cs.map C.dat) :: ds)
        | none => none
      else none
    | .val (.ref cs) =>
      match sealS N σ r with
      | some (σ', ds) => some (σ', .ref cs :: ds)
      | none => none
    | _ => none
  | _, _ => none

/-- A call: what its callee's contract hands back goes on. -/
def meet [Amb] (c : Prop) (P : Program) (f : FuncId) (ds : List D) (X : RetT → Prop) : Prop := ∃ r, (c → ACalls P f ds r) ∧ X r
def callK (N : Nat) (dst : Option Nat) (gs : List Bool) (σ : St) (K : St → Prop) (r : RetT) : Prop :=
  match r with
  | .d x => fin N dst gs σ (.val x) K
  | .tup xs => fin N dst gs σ (.tup xs) K
  | .own z es => gs = [] ∧ newO N dst σ (.own true z es) K
theorem meet.of [Amb] {c : Prop} {P : Program} {f : FuncId} {ds : List D} {X : RetT → Prop} {r : RetT} (h : ACalls P f ds r) (hx : X r) : meet c P f ds X := ⟨r, fun _ => h, hx⟩
theorem meet.ofG [Amb] {c : Prop} {P : Program} {f : FuncId} {ds : List D} {X : RetT → Prop} {r : RetT} (h : c → ACalls P f ds r) (hx : X r) : meet c P f ds X := ⟨r, h, hx⟩

/-- a string that becomes bytes -/
def bytesD (s : List UInt8) : D := .slice (.int .u8 0) (s.map fun b => .int .u8 (b.toNat : Int))
def Env.bytesOf (E : Env) (src dst : TypeId) : Bool :=
  match E.tab src, E.tab dst with
  | some { key := .string, .. }, some { key := .slice e, .. } => (match E.tab e with | some { key := .int .u8, .. } => true | _ => false)
  | _, _ => false

/-- A slice beside the constant nil: whether it is nil is known where it holds elements. -/
structure NilB (es : List D) where
  b : Bool
  h : es ≠ [] → b = false
def nilS (gs : List Bool) (op : BinOp) (y : Operand) (tx : T) : Option (List D) :=
  match gs, op, y, tx with
  | [], .eql, .const (.slice none 0 0), .val (.slice _ es) => some es
  | _, _, _, _ => none
def isSl (E : Env) (t : TypeId) : Bool := match E.tab t with | some { key := .slice _, .. } => true | _ => false

def stp [Amb] (E : Env) (N : Nat) (ops : Array Oper) (o : Oper) (σ : St) (K : St → Prop) : Prop :=
  match guardL ops σ o with
  | none => False
  | some gs =>
    match o.op with
    | .alloc ty =>
      match gs, E.tab ty with
      | [], some ti => newO N o.dst σ (.box (boxOf E ti)) K
      | _, _ => False
    | .box ty x =>
      match gs, dat σ.get (E.elemZ ty) (rd σ.get [] x).2 with
      | [], some (l, d) => (rd σ.get [] x).1 ∧ newO N o.dst (frzS σ l) (.box (d.cells.map .d)) K
      | _, _ => False
    | .buildSlice t n parts =>
      match E.tab t with
      | some { key := .slice e, .. } =>
        match E.tab e, rdDs σ.get gs (parts.toList.map fun p => (E.elemZ e, p.2)) with
        | some te, some (c, l, ds) =>
          gs.all id = true ∧ c ∧ 0 < te.size ∧ n * te.size ≤ 16777216 ∧ (∀ d ∈ ds, d.cells.length = te.size) ∧ (∀ p ∈ parts.toList, p.1 < n) ∧
            newO N o.dst (frzS σ l) (.own true te.zd (sliceParts te.zd (List.replicate n te.zd) ((parts.toList.map Prod.fst).zip ds))) K
        | _, _ => False
      | _ => False
    | .makeSlice t l c =>
      match gs, E.tab t, (rd σ.get [] l).2, (rd σ.get [] c).2 with
      | [], some { key := .slice e, .. }, .val (.int _ n), .val (.int _ m) =>
        match E.tab e with
        | some te =>
          (rd σ.get [] l).1 ∧ (rd σ.get [] c).1 ∧ 0 ≤ n ∧ n ≤ m ∧ te.bytes * m ≤ 281474976710656 ∧ m ≤ 9223372036854775807 ∧ 0 < te.size ∧
            newO N o.dst σ (.own true te.zd (List.replicate n.toNat te.zd)) K
        | none => False
      | _, _, _, _ => False
    | .makeFunc (.func f) fst caps =>
      match gs, fst.toList, sealS N σ caps.toList with
      | [], [], some (σ', ds) => fin N o.dst [] σ' (.val (.fn f ds)) K
      | _, _, _ => False
    | .store ty ad x =>
      match gs, E.tab ty, dat σ.get (E.elemZ ty) (rd σ.get [] x).2, (rd σ.get [] ad).2 with
      | [], some ti, some (l, d), .ptr s off =>
        match movS σ s off (rd σ.get [] x).2 with
        | some (q, z, es) =>
          match (σ.get s).box? with
          | some cs => (rd σ.get [] ad).1 ∧ (rd σ.get [] x).1 ∧ o.dst = none ∧ ti.size = 1 ∧ off < cs.length ∧ K ((s, .box (cs.set off (.own true z es))) :: (q, .junk) :: σ)
          | none => False
        | none =>
        match ((frzS σ l).get s).box? with
        | some cs => (rd σ.get [] ad).1 ∧ (rd σ.get [] x).1 ∧ o.dst = none ∧ d.cells.length = ti.size ∧ off + d.cells.length ≤ cs.length ∧ K ((s, .box (putC cs off d.cells)) :: frzS σ l)
        | none => False
      | [], some ti, some (l, d), .optr p i off =>
        match ((frzS σ l).get p.1).ownAt p.2 with
        | some (true, z, es) =>
          (rd σ.get [] ad).1 ∧ (rd σ.get [] x).1 ∧ o.dst = none ∧ d.cells.length = ti.size ∧ i < es.length ∧ off + d.cells.length ≤ z.cells.length ∧
            K ((p.1, ((frzS σ l).get p.1).setOwn p.2 (es.set i ((es.getD i z).setc off d.cells))) :: frzS σ l)
        | _ => False
      | _, _, _, _ => False
    | .call { callee := .builtin .append, args := args, argTypes := ats } =>
      match gs, args.toList, ats.toList, o.dst with
      | [], [x, y], [t, t'], some d =>
        match E.tab t with
        | some { key := .slice e, .. } =>
          match E.tab e, dat σ.get (E.zd e) (rd σ.get [] y).2, (rd σ.get [] x).2 with
          | some te, some (l, .slice z2 es2), .alias (s, 0) =>
            match (frzS σ l).get s with
            | .own m z es =>
              (rd σ.get [] x).1 ∧ (rd σ.get [] y).1 ∧ t' = t ∧ d < N ∧ s ≠ d ∧ norefs (frzS σ l) d = true ∧ z.cells.length = te.size ∧ z2.cells.length = te.size ∧ 0 < te.size ∧
                (es.length + es2.length) * te.bytes ≤ 140737488355328 ∧ es.length + es2.length ≤ maxLen ∧ K ((d, .own m z (es ++ es2)) :: (s, leftT m z es) :: frzS σ l)
            | _ => False
          | some te, some (l, .slice z2 es2), .nils =>
            (rd σ.get [] x).1 ∧ (rd σ.get [] y).1 ∧ t' = t ∧ d < N ∧ norefs (frzS σ l) d = true ∧ te.zd.cells.length = te.size ∧ z2.cells.length = te.size ∧ 0 < te.size ∧
              es2.length * te.bytes ≤ 140737488355328 ∧ es2.length ≤ maxLen ∧ K ((d, .own true te.zd es2) :: frzS σ l)
          | _, _, _ => False
        | _ => False
      | _, _, _, _ => False
    | .call { callee := .value f, args := args, argTypes := ats } =>
      match (rd σ.get gs f).2, rdDs σ.get gs (E.hints ats.toList args.toList) with
      | .val (.fn fid caps), some (c, l, ds) =>
        (gs.all id = true → (rd σ.get gs f).1 ∧ c) ∧
        meet (gs.all id = true) E.P fid (ds ++ caps) (callK N o.dst gs (frzS σ l) K)
      | _, _ => False
    | .convert src dst x =>
      match gs, E.bytesOf src dst, (rd σ.get [] x).2 with
      | [], true, .val (.str s) => (rd σ.get [] x).1 ∧ s.length ≤ 16777216 ∧ fin N o.dst [] σ (.val (bytesD s)) K
      | _, _, _ =>
        match valOp E σ.get gs (.convert src dst x) with
        | some (c, l, t) => (gs.all id = true → c) ∧ finA N o.dst gs (frzS σ l) t K
        | none => False
    | .binOp op xt x y gd =>
      match nilS gs op y (rd σ.get [] x).2 with
      | some es => (rd σ.get [] x).1 ∧ isSl E xt = true ∧ ∀ q : NilB es, fin N o.dst [] σ (.val (.bool q.b)) K
      | none =>
        match valOp E σ.get gs (.binOp op xt x y gd) with
        | some (c, l, t) => (gs.all id = true → c) ∧ finA N o.dst gs (frzS σ l) t K
        | none => False
    | op =>
      match valOp E σ.get gs op with
      | some (c, l, t) => (gs.all id = true → c) ∧ finA N o.dst gs (frzS σ l) t K
      | none => False

/-- A region's operations in the order of the text. -/
def walk [Amb] (E : Env) (N : Nat) (ops : Array Oper) : List Oper → St → (St → Prop) → Prop
  | [], σ, K => K σ
  | o :: os, σ, K => stp E N ops o σ fun σ' => walk E N ops os σ' K

section
variable {base : Nat} {S0 : Nat → Nat → Prop} {w0 : World} {N : Nat} {a : Act} {w : World} {bk : Pl → Option Nat} {E : Env} {P : Program} {σ : St}

theorem get_cons (σ : St) (d : Nat) (t : T) : St.get ((d, t) :: σ) = upd σ.get d t := by
  funext s
  simp only [St.get, upd]
  by_cases h : d = s
  · rw [if_pos h, if_pos h.symm]
  · rw [if_neg h, if_neg (Ne.symm h)]

theorem frzS_get [Amb] (σ : St) (l : List Nat) : (frzS σ l).get = frzs σ.get l := by
  induction l generalizing σ with
  | nil => rfl
  | cons s r ih =>
    show (frzS ((s, (σ.get s).frz) :: σ) r).get = frzs (upd σ.get s (σ.get s).frz) r
    rw [ih, get_cons]

theorem norefs_ok {d : Nat} (h : norefs σ d = true) : ∀ s, s ≠ d → d ∉ (σ.get s).refs := by
  induction σ with
  | nil => intro s _ hh; simp [St.get, T.refs] at hh
  | cons p r ih =>
    obtain ⟨k, t⟩ := p
    simp only [norefs, List.all_cons, Bool.and_eq_true] at h
    intro s hs
    simp only [St.get]
    split
    · rename_i hks
      subst hks
      have := h.1
      simp [hs] at this
      exact this
    · exact ih h.2 s hs

theorem noplace_ok {q : Pl} (h : noplace σ q = true) : ∀ s, (σ.get s).hasPl q = false := by
  induction σ with
  | nil => intro s; rfl
  | cons p r ih =>
    obtain ⟨k, t⟩ := p
    simp only [noplace, List.all_cons, Bool.and_eq_true] at h
    intro s
    simp only [St.get]
    split
    · simpa using h.1
    · exact ih h.2 s

theorem movS_ok {s off : Nat} {t : T} {q : Nat} {z : D} {es : List D} (h : movS σ s off t = some (q, z, es)) : t = .alias (q, 0) ∧ σ.get q = .own true z es ∧ q ≠ s ∧ noplace σ (s, off + 1) = true := by
  cases t with
  | alias p =>
    obtain ⟨p1, p2⟩ := p
    cases p2 with
    | succ i => simp [movS] at h
    | zero =>
      simp only [movS] at h
      split at h
      · rename_i z' es' hg
        split at h
        · rename_i hc
          simp only [Option.some.injEq, Prod.mk.injEq] at h
          obtain ⟨rfl, rfl, rfl⟩ := h
          simp only [Bool.and_eq_true, bne_iff_ne] at hc
          exact ⟨rfl, hg, hc.1, hc.2⟩
        · cases h
      · cases h
  | _ => simp [movS] at h

/-- The guard, as the frame tells it. -/
theorem guard_ok [Amb] {ops : Array Oper} {o : Oper} {gs : List Bool} (h : RB base S0 w0 N σ.get a w bk) (hg : guardL ops σ o = some gs) : Region.wanted o (yielded ops a.tmps) = gs.all id := by
  unfold guardL at hg
  split at hg
  · rename_i ho
    simp at hg; subst hg
    simp [Region.wanted, ho]
  · rename_i j want ho
    split at hg
    · rename_i s hs
      have h0 := h.slots s
      have key : ∀ (gs' : List Bool) (b : Bool), (gs'.all id = true → a.tmps.getD s undef = .bool b) → (gs'.all id = false → a.tmps.getD s undef = undef) →
          Region.wanted o (yielded ops a.tmps) = ((if want then b else !b) :: gs').all id := by
        intro gs' b h1 h2
        have hy : ∀ v, a.tmps.getD s undef = v → yielded ops a.tmps j = match v with | .bool b => some b | _ => none := by
          intro v hv
          unfold yielded
          rw [hs]
          simp only [Option.bind_some]
          rw [Array.getD_eq_getD_getElem?] at hv
          cases hts : a.tmps[s]? with
          | none => rw [hts] at hv; subst hv; rfl
          | some u => rw [hts] at hv; simp at hv; subst hv; cases u <;> rfl
        simp only [Region.wanted, ho]
        cases hga : gs'.all id with
        | true => rw [hy _ (h1 hga), List.all_cons, hga]; cases want <;> cases b <;> rfl
        | false => rw [hy _ (h2 hga), List.all_cons, hga]; cases want <;> cases b <;> rfl
      split at hg
      · rename_i b hb
        simp at hg; subst hg
        rw [hb] at h0
        exact key [] b (fun _ => by generalize a.tmps.getD s undef = v at *; cases h0; rfl) (fun hh => by simp at hh)
      · rename_i gs' b hb
        simp at hg; subst hg
        rw [hb] at h0
        exact key gs' b (fun hga => by have := h0.1 hga; generalize a.tmps.getD s undef = v at *; cases this; rfl) h0.2
      · cases hg
    · cases hg
end
end Ab

namespace Ab
open Go Go.RowKit

section
variable {base : Nat} {S0 : Nat → Nat → Prop} {w0 : World} {N : Nat} {a : Act} {w : World} {bk : Pl → Option Nat} {E : Env} {P : Program} {σ : St}

abbrev Kc [Amb] (base : Nat) (S0 : Nat → Nat → Prop) (w0 : World) (N : Nat) (K : St → Prop) (a : Act) (w : World) : Prop := ∃ σ', K σ' ∧ R base S0 w0 N σ'.get a w

/-- The content of the written slot, under its guard. -/
theorem optw_plain {gs : List Bool} {t : T} (h : t.plain = true) : (optw gs t).plain = true := by cases gs <;> simpa [optw, T.plain] using h

theorem RT.optw {S : Nat → Nat → Prop} {g : Nat → T} {s : Nat} {gs : List Bool} {t : T} {v : Value} (h1 : gs.all id = true → RT w S bk g s t v) (h2 : gs.all id = false → v = undef) : RT w S bk g s (optw gs t) v := by
  cases gs with
  | nil => exact h1 rfl
  | cons b gs => exact ⟨h1, h2⟩

/-- A value that an operation hands back, into its slot. -/
theorem fin_val [Amb] (h : RB base S0 w0 N σ.get a w bk) {w' : World} {dst : Option Nat} {gs : List Bool} {t : T} {v : Value} {K : St → Prop} (hw : Below w.heap.size w w') (hp : t.plain = true)
    (ht : ∀ d, RT w' (stab base S0 (upd σ.get d (optw gs t)) (clr bk d) w'.heap.size) (clr bk d) (upd σ.get d (optw gs t)) d (optw gs t) v) (hK : fin N dst gs σ t K) : Kc base S0 w0 N K (a.put dst v) w' := by
  unfold fin at hK
  cases dst with
  | some d =>
    refine ⟨_, hK.2, ?_⟩
    rw [get_cons]
    exact ⟨_, h.put hK.1 hw (optw_plain hp) (ht d)⟩
  | none =>
    refine ⟨σ, hK, ?_⟩
    show R base S0 w0 N σ.get a w'
    have hS : ∀ b o, stab base S0 σ.get bk w.heap.size b o → stab base S0 σ.get bk w'.heap.size b o := fun b o hs => by
      rcases hs with hs | ⟨h1, h2, h3⟩
      · exact .inl hs
      · exact .inr ⟨h1, Nat.lt_of_lt_of_le h2 hw.size, h3⟩
    exact ⟨bk, h.coreG (fun _ => False) h.defers h.size (fun _ _ => rfl) (fun _ _ => rfl) (hw.mono h.le) (fun p b hb => ⟨(h.rng p b hb).1, Nat.lt_of_lt_of_le (h.rng p b hb).2 hw.size⟩) h.inj
      (fun b o hs => below_cell hw (stab_lt h hs)) hS (fun _ _ => rfl) (fun p b _ hb => hw.block b (h.rng p b hb).2) (fun _ _ _ _ hh => hh.elim) (fun _ hh => hh.elim) (fun _ hh => hh.elim) (fun _ hh => hh.elim)⟩

/-- A guarded operation that is not wanted. -/
theorem fin_skip [Amb] (h : RB base S0 w0 N σ.get a w bk) {dst : Option Nat} {gs : List Bool} {t : T} {K : St → Prop} (hp : t.plain = true) (hgs : gs.all id = false) (hK : fin N dst gs σ t K) : Kc base S0 w0 N K (a.put dst undef) w :=
  fin_val h (Below.refl _ _) hp (fun d => RT.optw (fun hh => by rw [hgs] at hh; cases hh) (fun _ => rfl)) hK

theorem valOp_plain [Amb] {E : Env} {g : Nat → T} {gs : List Bool} {op : Op} {c : Prop} {l : List Nat} {t : T} (h : valOp E g gs op = some (c, l, t)) : t.plain = true := by
  have hrd : ∀ gs x, (rd g gs x).2.plain = true := fun gs x => by
    cases x with
    | tmp s => show (rdT s gs (g s)).2.plain = true; cases hg : g s <;> first | rfl | exact T.noOpt_plain _
    | const v => show (constT v).2.plain = true; unfold constT; split <;> rfl
    | global b => show (match Amb.tab b with | some ds => T.val (.ref ds) | none => .junk).plain = true; cases Amb.tab b <;> rfl
    | _ => rfl
  cases op <;> simp only [valOp, Option.some.injEq, Prod.mk.injEq, Option.map_eq_some_iff, reduceCtorEq] at h
  case move x => obtain ⟨_, _, rfl⟩ := h; exact hrd _ _
  case assign x => obtain ⟨_, _, rfl⟩ := h; exact hrd _ _
  case pick => split at h <;> (try split at h) <;> simp at h; obtain ⟨_, _, rfl⟩ := h; rfl
  case fieldAddr s x f =>
    obtain ⟨r, h1, _, _, rfl⟩ := h
    unfold fldA at h1
    repeat' split at h1
    all_goals first | (cases h1; done) | (simp only [Option.some.injEq] at h1; subst h1; rfl)
  case field => obtain ⟨r, h1, _, _, rfl⟩ := h; rfl
  case load ty x =>
    obtain ⟨r, h1, _, _, rfl⟩ := h
    unfold ldT at h1
    repeat' split at h1
    all_goals first | (cases h1; done) | (simp only [Option.some.injEq] at h1; subst h1; rfl)
  case indexAddr t x ix =>
    obtain ⟨r, h1, _, _, rfl⟩ := h
    unfold idxA at h1
    repeat' split at h1
    all_goals first | (cases h1; done) | (simp only [Option.some.injEq] at h1; subst h1; rfl)
  case index => obtain ⟨r, h1, _, _, rfl⟩ := h; rfl
  case binOp =>
    split at h
    · simp only [Option.some.injEq, Prod.mk.injEq] at h; obtain ⟨_, _, rfl⟩ := h; rfl
    · simp only [Option.map_eq_some_iff, Prod.mk.injEq] at h; obtain ⟨r, h1, _, _, rfl⟩ := h; rfl
  case unOp => obtain ⟨r, h1, _, _, rfl⟩ := h; rfl
  case convert => obtain ⟨r, h1, _, _, rfl⟩ := h; rfl
  case slice t x lo hi mx =>
    obtain ⟨r, h1, _, _, rfl⟩ := h
    unfold slcT at h1
    repeat' split at h1
    all_goals first | (cases h1; done) | (simp only [Option.some.injEq] at h1; subst h1; rfl)
  case extract =>
    split at h
    · simp only [Option.map_eq_some_iff, Prod.mk.injEq] at h; obtain ⟨_, _, _, _, rfl⟩ := h; rfl
    · cases h
  case nilCheck =>
    repeat' split at h
    all_goals first | (cases h; done) | (simp only [Option.some.injEq, Prod.mk.injEq] at h; obtain ⟨_, _, rfl⟩ := h; rfl)
  case build =>
    repeat' split at h
    all_goals first | (cases h; done) | (simp only [Option.some.injEq, Prod.mk.injEq] at h; obtain ⟨_, _, rfl⟩ := h; rfl)
  case call cl =>
    obtain ⟨callee, args, ats⟩ := cl
    cases callee with
    | builtin b =>
      simp only at h
      split at h
      · simp only [Option.map_eq_some_iff, Prod.mk.injEq] at h; obtain ⟨_, _, _, _, rfl⟩ := h; rfl
      · simp only [Option.map_eq_some_iff, Prod.mk.injEq] at h; obtain ⟨_, _, _, _, rfl⟩ := h; rfl
      · simp only [Option.map_eq_some_iff, Prod.mk.injEq] at h; obtain ⟨_, _, _, _, rfl⟩ := h; rfl
      · cases h
    | _ => simp at h

/-- What one operation must show: it is wanted, or not. -/
def Step [Amb] (P : Program) (base : Nat) (S0 : Nat → Nat → Prop) (w0 : World) (N : Nat) (ops : Array Oper) (o : Oper) (K : St → Prop) (a : Act) (w : World) : Prop :=
  ∀ Q : Exit → Act → World → Prop, if Region.wanted o (yielded ops a.tmps) then o.wp P a w (Kc base S0 w0 N K) Q else Kc base S0 w0 N K (a.put o.dst undef) w

theorem wp_value {o : Oper} {v : Value} {w' : World} {nx : Act → World → Prop} {Q : Exit → Act → World → Prop} (hr : (execOp a.eval o).run P w = .ok (.value v) w') (h : nx (a.put o.dst v) w') : o.wp P a w nx Q := by
  unfold Oper.wp; rw [hr]; exact h

theorem step_val [Amb] (hE : E.Ok) (h : RB base S0 w0 N σ.get a w bk) {ops : Array Oper} {o : Oper} {gs : List Bool} (hg : guardL ops σ o = some gs) {c : Prop} {l : List Nat} {t : T} {K : St → Prop}
    (hv : valOp E σ.get gs o.op = some (c, l, t)) (hc : gs.all id = true → c) (hK : fin N o.dst gs (frzS σ l) t K) : Step E.P base S0 w0 N ops o K a w := by
  intro Q
  rw [guard_ok h hg]
  have hf : RB base S0 w0 N (frzS σ l).get a w bk := by rw [frzS_get]; exact h.frzs l
  have hp := valOp_plain hv
  cases hga : gs.all id with
  | true =>
    rw [if_pos rfl]
    obtain ⟨v, h1, h2, _⟩ := valOp_ok hE h hga hv (hc hga)
    refine wp_value h1 (fin_val hf (Below.refl _ _) hp (fun d => RT.optw (fun _ => ?_) (fun hh => by rw [hga] at hh; cases hh)) hK)
    rw [← frzS_get] at h2
    exact RT.put hf (Below.refl _ _) (optw_plain hp) hp h2
  | false =>
    rw [if_neg (by simp)]
    exact fin_skip hf hp hga hK

theorem RB.reput [Amb] {g : Nat → T} (h : RB base S0 w0 N g a w bk) {d : Nat} {m : Bool} {z : D} {es : List D} {v : Value} (hd : d < N) (hg : g d = .own m z es) (hv : Hdr w (bk (d, 0)) z.cells.length es.length v) : RB base S0 w0 N g (a.put (some d) v) w bk := by
  have hu : upd g d (g d) = g := by
    funext s
    by_cases hs : s = d
    · subst hs; rw [upd_same]
    · rw [upd_ne _ _ hs]
  have := h.core (w' := w) (a' := a.put (some d) v) (bk' := bk) (d := d) (t := g d) (by rw [put_defers]; exact h.defers) (by rw [put_size]; exact h.size) (fun s hs => by rw [getD_put a d s v (by rw [h.size]; exact hd), if_neg hs])
    (Below.refl _ _) h.rng h.inj (fun _ _ _ => rfl) (fun _ _ hs => by rw [hu]; exact hs) (fun _ _ => rfl) (fun _ _ _ _ => rfl)
    (fun s _ _ => by rw [hu]; exact Refine.refl rfl (fun _ => rfl) (fun _ _ _ => .of_eq rfl))
    (by rw [hu, getD_put a d d v (by rw [h.size]; exact hd), if_pos rfl, hg]; exact hv)
    (fun i m' z' es' ho b hb => by rw [hu]; exact h.own (d, i) m' z' es' ho b hb)
    (fun cs hb => by rw [hg] at hb; cases hb)
  rwa [hu] at this

theorem step_valA [Amb] (hE : E.Ok) (h : RB base S0 w0 N σ.get a w bk) {ops : Array Oper} {o : Oper} {gs : List Bool} (hg : guardL ops σ o = some gs) {c : Prop} {l : List Nat} {t : T} {K : St → Prop}
    (hv : valOp E σ.get gs o.op = some (c, l, t)) (hc : gs.all id = true → c) (hK : finA N o.dst gs (frzS σ l) t K) : Step E.P base S0 w0 N ops o K a w := by
  match gs, hd : o.dst, hK with
  | [], none, hK => exact step_val hE h hg hv hc (by rw [hd]; exact hK)
  | _ :: _, _, hK => exact step_val hE h hg hv hc (by rw [hd]; exact hK)
  | [], some d, hK =>
    by_cases hs : selfA (frzS σ l) d t = true
    · simp only [finA, hs, if_true] at hK
      have k1 := hK.1
      have k2 := hK.2
      intro Q
      rw [guard_ok h hg, if_pos (by rfl)]
      obtain ⟨v, h1, h2, _⟩ := valOp_ok hE h rfl hv (hc rfl)
      have hf : RB base S0 w0 N (frzS σ l).get a w bk := by rw [frzS_get]; exact h.frzs l
      rw [← frzS_get] at h2
      match t, h2, hs with
      | .alias (p1, p2), h2, hs =>
      simp only [selfA, Bool.and_eq_true, beq_iff_eq] at hs
      obtain ⟨rfl, rfl, hs⟩ := hs
      cases hx : (frzS σ l).get p1 with
      | own m z es =>
        have := h2 m z es (by show ((frzS σ l).get p1).ownAt 0 = _; rw [hx]; rfl)
        refine wp_value h1 ⟨frzS σ l, k2, ?_⟩
        rw [hd]
        exact ⟨_, hf.reput k1 hx this⟩
      | _ => rw [hx] at hs; simp at hs
    · have hs' : selfA (frzS σ l) d t = false := by simpa using hs
      simp only [finA, hs', Bool.false_eq_true, if_false] at hK
      exact step_val hE h hg hv hc (by rw [hd]; exact hK)

theorem newO_box [Amb] (h : RB base S0 w0 N σ.get a w bk) {dst : Option Nat} {cs : List C} {K : St → Prop} (hK : newO N dst σ (.box cs) K) {arr : Array Value} {ty : TypeId} (hsz : arr.size = cs.length)
    (hcs : ∀ i c, cs[i]? = some c → RC w (stab base S0 σ.get bk w.heap.size) none c (arr.getD i undef)) : Kc base S0 w0 N K (a.put dst (.pointer (some (at' w.heap.size 0)))) (w.alloc (.cells arr ty)) := by
  cases dst with
  | none => exact hK.elim
  | some d =>
    obtain ⟨h1, h2, h3⟩ := hK
    obtain ⟨bk', hb⟩ := h.newBox h1 (norefs_ok h2) (ty := ty) hsz hcs
    exact ⟨_, h3, by rw [get_cons]; exact ⟨bk', hb⟩⟩

theorem newO_row [Amb] (h : RB base S0 w0 N σ.get a w bk) {dst : Option Nat} {m : Bool} {z : D} {es : List D} {K : St → Prop} (hK : newO N dst σ (.own m z es) K) {arr : Array Value} {ty : TypeId} {cap : Nat} (hsz : arr.size = cap * z.cells.length)
    (hcap : es.length ≤ cap) (hm : cap ≤ maxLen) (h1 : ∀ e ∈ es, e.cells.length = z.cells.length ∧ ∀ c ∈ e.cells, c.flat = true)
    (h2 : ∀ i e j c, es[i]? = some e → e.cells[j]? = some c → Rep w (stab base S0 σ.get bk w.heap.size) c (arr.getD (i * z.cells.length + j) undef)) :
    Kc base S0 w0 N K (a.put dst (.slice (some (at' w.heap.size 0)) es.length cap)) (w.alloc (.cells arr ty)) := by
  cases dst with
  | none => exact hK.elim
  | some d =>
    obtain ⟨k1, k2, k3⟩ := hK
    obtain ⟨bk', hb⟩ := h.newRow k1 (norefs_ok k2) (ty := ty) hsz hcap hm h1 h2
    exact ⟨_, k3, by rw [get_cons]; exact ⟨bk', hb⟩⟩

theorem zd_cells [Amb] {t : TypeId} {ti : TI} (h : TyOk P t ti) : ti.zd.cells = ti.zc := by
  unfold TI.zd
  by_cases hag : ti.key.agg = true
  · rw [if_pos hag]; rfl
  · rw [if_neg hag]
    have h1 := h.one (by simpa using hag)
    have h2 := h.len
    have h3 := h.zok
    match hz : ti.zc, h2 with
    | [], h2 => rw [h1] at h2; simp at h2
    | [c], _ =>
      rw [hz] at h3; simp at h3
      exact D.cells_flat (D.zok_rep (w := default) (S := fun _ _ => True) h3).2
    | _ :: _ :: _, h2 => rw [h1] at h2; simp at h2

theorem sliceParts_mem [Amb] {z : D} : ∀ (parts : List (Nat × D)) (es : List D) {e : D}, e ∈ sliceParts z es parts → e ∈ es ∨ ∃ p ∈ parts, e = p.2
  | [], es, e, h => .inl h
  | (i, d) :: r, es, e, h => by
    rcases sliceParts_mem r _ h with h | ⟨p, h1, h2⟩
    · rcases List.mem_or_eq_of_mem_set h with h | rfl
      · exact .inl h
      · exact .inr ⟨(i, e), by simp, rfl⟩
    · exact .inr ⟨p, by simp [h1], h2⟩

theorem sliceParts_length [Amb] {z : D} : ∀ (parts : List (Nat × D)) (es : List D), (sliceParts z es parts).length = es.length
  | [], _ => rfl
  | (i, d) :: r, es => by rw [sliceParts, sliceParts_length]; simp

/-- A row is filled, element by element. -/
theorem fill_row [Amb] {S : Nat → Nat → Prop} {sz : Nat} (z : D) : ∀ (parts : List (Nat × D)) (vs : List (Nat × Value)) (es : List D) (arr : Array Value), parts.length = vs.length →
    (∀ (i : Nat) (p : Nat × D) (q : Nat × Value), parts[i]? = some p → vs[i]? = some q → p.1 = q.1 ∧ Rep w S p.2 q.2) → (∀ p ∈ parts, p.2.cells.length = sz ∧ p.1 < es.length) → arr.size = es.length * sz →
    (∀ e ∈ es, e.cells.length = sz) →
    (∀ i e j c, es[i]? = some e → e.cells[j]? = some c → Rep w S c (arr.getD (i * sz + j) undef)) →
    ∃ r, Instr.fill (fun i => some (i * sz, sz)) arr vs = some r ∧ r.size = arr.size ∧ ∀ i e j c, (sliceParts z es parts)[i]? = some e → e.cells[j]? = some c → Rep w S c (r.getD (i * sz + j) undef)
  | [], [], es, arr, _, _, _, _, _, hr => ⟨arr, rfl, rfl, hr⟩
  | [], _ :: _, _, _, hl, _, _, _, _, _ => by simp at hl
  | _ :: _, [], _, _, hl, _, _, _, _, _ => by simp at hl
  | (i, d) :: parts, (i', v) :: vs, es, arr, hl, hp, hps, hsz, hes, hr => by
    obtain ⟨e1, e2⟩ := hp 0 _ _ rfl rfl
    simp only at e1 e2; subst e1
    obtain ⟨k1, k2⟩ := hps (i, d) (by simp)
    simp only at k1 k2
    have hvs := e2.cells.1
    rw [k1] at hvs
    have hil : (i + 1) * sz ≤ es.length * sz := Nat.mul_le_mul_right _ k2
    rw [Nat.add_mul] at hil
    obtain ⟨s1, s2⟩ := foldl_set_arr (i * sz) v.cells arr (by omega)
    obtain ⟨r, r1, r2, r3⟩ := fill_row z parts vs (es.set i d) _ (by simpa using hl) (fun j p q hpj hqj => hp (j + 1) p q hpj hqj) (fun p hp' => by simpa using hps p (by simp [hp'])) (by rw [s1, hsz]; simp)
      (fun e he => by rcases List.mem_or_eq_of_mem_set he with he | rfl <;> first | exact hes e he | exact k1) (fun j e j' c he hj => by
        have hjl := (List.getElem?_eq_some_iff.1 hj).1
        rw [s2]
        rw [List.getElem?_set] at he
        split at he
        · rename_i hij
          subst hij
          simp only [Option.some.injEq] at he; subst he
          rw [if_pos (by omega), show i * sz + j' - i * sz = j' by omega]
          exact e2.cells.2.2 j' c hj
        · rename_i hij
          have := hes e (List.mem_of_getElem? he)
          rw [if_neg]
          · exact hr j e j' c he hj
          · intro hcon
            rcases Nat.lt_or_gt_of_ne hij with hlt | hlt
            · have : (i + 1) * sz ≤ j * sz := Nat.mul_le_mul_right _ hlt
              rw [Nat.add_mul] at this; omega
            · have : (j + 1) * sz ≤ i * sz := Nat.mul_le_mul_right _ hlt
              rw [Nat.add_mul] at this; omega)
    refine ⟨r, ?_, r2.trans s1, r3⟩
    rw [Instr.fill.eq_2]
    simp only
    rw [if_neg (by simp; omega)]
    exact r1

theorem zero_row [Amb] {t : TypeId} {ti : TI} (ht : TyOk P t ti) {S : Nat → Nat → Prop} (n : Nat) :
    ∀ i e j c, (List.replicate n ti.zd)[i]? = some e → e.cells[j]? = some c → Rep w S c ((madeCells ti.zero.cells (n * ti.size)).getD (i * ti.size + j) undef) := by
  intro i e j c he hj
  have hi := (List.getElem?_eq_some_iff.1 he).1
  rw [List.length_replicate] at hi
  rw [List.getElem?_replicate, if_pos hi] at he
  simp at he; subst he
  rw [zd_cells ht] at hj
  obtain ⟨h1, _, h3⟩ := ht.zeroL w S
  have hjl := (List.getElem?_eq_some_iff.1 hj).1
  rw [ht.len] at hjl h1
  have hil : (i + 1) * ti.size ≤ n * ti.size := Nat.mul_le_mul_right _ hi
  rw [Nat.add_mul] at hil
  have := h3 j c hj
  have e1 : (madeCells ti.zero.cells (n * ti.size)).getD (i * ti.size + j) undef = ti.zero.cells.getD j undef := by
    unfold madeCells
    rw [Array.getD_eq_getD_getElem?, Array.getElem?_map]
    simp only [Array.getElem?_range, show i * ti.size + j < n * ti.size by omega, if_true, Option.map_some, Option.getD_some, h1, (divmod hjl).2]
    rw [getElem!_pos ti.zero.cells j (by omega), Array.getD_eq_getD_getElem?, Array.getElem?_eq_getElem (by omega)]; rfl
  rw [e1]; exact this
end
end Ab

namespace Ab
open Go Go.RowKit

section
variable {base : Nat} {S0 : Nat → Nat → Prop} {w0 : World} {N : Nat} {a : Act} {w : World} {bk : Pl → Option Nat} {E : Env} {P : Program} {σ : St}

theorem nil_all : ([] : List Bool).all id = true := rfl

theorem hints_snd [Amb] (E : Env) : ∀ (ts : List TypeId) (xs : List Operand), (E.hints ts xs).map Prod.snd = xs
  | _, [] => by cases ‹List TypeId› <;> rfl
  | t :: ts, x :: xs => by simp [Env.hints, hints_snd E ts xs]
  | [], x :: xs => by simp [Env.hints, hints_snd E [] xs]

theorem stayed_stab [Amb] {w' : World} {d : Nat} {t : T} {ob : Option Nat} (h : RB base S0 w0 N σ.get a w bk) (hw : Below w.heap.size w w') {x o : Nat}
    (hs : stayed w w' (stab base S0 σ.get bk w.heap.size) ob x o) : stab base S0 (upd σ.get d t) (setb (clr bk d) (d, 0) ob) w'.heap.size x o ∨ (∃ b, ob = some b ∧ x = b) ∨ (ob = none ∧ stab base S0 (upd σ.get d t) (clr bk d) w'.heap.size x o) := by
  rcases hs with ⟨h1, h2⟩ | ⟨h1, h2, h3⟩
  · cases ob with
    | none => exact .inr (.inr ⟨rfl, stab_clr _ _ t hw.size h2⟩)
    | some b =>
      by_cases hxb : x = b
      · exact .inr (.inl ⟨b, rfl, hxb⟩)
      · left
        rcases stab_clr σ.get bk (d := d) t hw.size h2 with h4 | ⟨h4, h5, h6⟩
        · exact .inl h4
        · refine .inr ⟨h4, h5, fun p hp => ?_⟩
          unfold setb at hp
          split at hp
          · simp at hp; exact absurd hp.symm hxb
          · exact h6 p hp
  · cases ob with
    | none =>
      refine .inr (.inr ⟨rfl, .inr ⟨by have := h.le; omega, h2, fun p hp => ?_⟩⟩)
      have := (h.rng p x (clr_some hp).2).2; omega
    | some b =>
      left
      refine .inr ⟨by have := h.le; omega, h2, fun p hp => ?_⟩
      unfold setb at hp
      split at hp
      · simp at hp; subst hp; exact absurd rfl h3
      · have := (h.rng p x (clr_some hp).2).2; omega

theorem stayed_none [Amb] (h : RB base S0 w0 N σ.get a w bk) {w' : World} (hw : Below w.heap.size w w') (d : Nat) (t : T) {x o : Nat} (hs : stayed w w' (stab base S0 σ.get bk w.heap.size) none x o) :
    stab base S0 (upd σ.get d t) (clr bk d) w'.heap.size x o := by
  rcases hs with ⟨h1, h2⟩ | ⟨h1, h2, h3⟩
  · exact stab_clr _ _ t hw.size h2
  · refine .inr ⟨by have := h.le; omega, h2, fun p hp => ?_⟩
    have := (h.rng p x (clr_some hp).2).2; omega

theorem step_call [Amb] (h : RB base S0 w0 N σ.get a w bk) {ops : Array Oper} {o : Oper} {gs : List Bool} (hg : guardL ops σ o = some gs) {f : Operand} {args : Array Operand} {ats : Array TypeId} (ho : o.op = .call { callee := .value f, args := args, argTypes := ats })
    {fid : FuncId} {caps : List D} (hf : (rd σ.get gs f).2 = .val (.fn fid caps)) {c : Prop} {l : List Nat} {ds : List D} (hds : rdDs σ.get gs (E.hints ats.toList args.toList) = some (c, l, ds)) (hc : gs.all id = true → (rd σ.get gs f).1 ∧ c)
    {r : RetT} {K : St → Prop}
    (hK : match r with
          | .d x => fin N o.dst gs (frzS σ l) (.val x) K
          | .tup xs => fin N o.dst gs (frzS σ l) (.tup xs) K
          | .own z es => gs = [] ∧ newO N o.dst (frzS σ l) (.own true z es) K) (hr : gs.all id = true → ACalls E.P fid (ds ++ caps) r) : Step E.P base S0 w0 N ops o K a w := by
  intro Q
  rw [guard_ok h hg]
  have hfz : RB base S0 w0 N (frzS σ l).get a w bk := by rw [frzS_get]; exact h.frzs l
  cases hga : gs.all id with
  | false =>
    rw [if_neg (by simp)]
    cases r with
    | d x => exact fin_skip hfz rfl hga hK
    | tup xs => exact fin_skip hfz rfl hga hK
    | own z es => obtain ⟨hnil, _⟩ := hK; subst hnil; cases hga
  | true =>
    rw [if_pos rfl]
    obtain ⟨hc1, hc2⟩ := hc hga
    obtain ⟨⟨fn, fn1, fn2, fn3⟩, hcall⟩ := hr hga
    obtain ⟨e1, e2⟩ := rdDs_ok h hga _ hds hc2 l (fun s hs => hs)
    obtain ⟨r1, _⟩ := rd_ok h hga f hc1
    rw [hf] at r1
    have hf2 := frzs_slots h l rfl r1
    generalize hvf : a.eval f = vf at r1 hf2
    rw [← frzS_get] at e2 hf2
    cases hf2 with
    | fn _ _ vcs hl hcap =>
      have hlen : ds.length = args.size := by
        rw [e1]
        have := congrArg List.length (hints_snd E ats.toList args.toList)
        simpa using this
      have hargs := hcall w (stab base S0 (frzS σ l).get bk w.heap.size) (args.map a.eval ++ vcs) hfz.amb' (fun b o hs => stab_lt hfz hs) (by simp [hlen, hl]) (fun i d hi => by
        by_cases hid : i < ds.length
        · rw [List.getElem?_append_left hid] at hi
          have hx : ∃ x, (E.hints ats.toList args.toList)[i]? = some x := ⟨_, List.getElem?_eq_getElem (by rw [← e1]; exact hid)⟩
          obtain ⟨x, hx⟩ := hx
          have h3 := e2 i d x hi hx
          have h4 : args.toList[i]? = some x.2 := by
            rw [← hints_snd E ats.toList args.toList, List.getElem?_map, hx]; rfl
          have h5 : (args.map a.eval ++ vcs).getD i undef = a.eval x.2 := by
            rw [Array.getD_eq_getD_getElem?, Array.getElem?_append_left (by simp; omega), Array.getElem?_map, ← Array.getElem?_toList, h4]; rfl
          rw [h5]; exact h3
        · rw [List.getElem?_append_right (by omega)] at hi
          have h3 := hcap _ d hi
          have h5 : (args.map a.eval ++ vcs).getD i undef = vcs.getD (i - ds.length) undef := by
            rw [Array.getD_eq_getD_getElem?, Array.getElem?_append_right (by simp; omega), Array.getD_eq_getD_getElem?]; simp [hlen]
          rw [h5]; exact h3)
      have hrun : (execOp a.eval o).run E.P w = .ok (.enter fid (args.map a.eval ++ vcs)) w := by
        have hb : fn.body ≠ none := by intro hbb; rw [hbb] at fn3; cases fn3
        have hn : fn.name ≠ "runtime.NumGoroutine" := by simpa using fn2
        simp [execOp, ho, resolve, hvf, Deferred.ofValue, invoke, callFunc, fn1, hn, hb]
      unfold Oper.wp
      rw [hrun]
      refine hargs.mono fun e w' ⟨v, he, hw, hrel⟩ => ?_
      subst he
      show Kc base S0 w0 N K (a.put o.dst v) w'
      cases r with
      | d x =>
        refine fin_val hfz hw rfl (fun d => RT.optw (fun _ => ?_) (fun hh => by rw [hga] at hh; cases hh)) hK
        exact Rep.mono hrel (fun _ _ _ => rfl) (fun b o hs => stayed_none hfz hw d _ hs)
      | tup xs =>
        refine fin_val hfz hw rfl (fun d => RT.optw (fun _ => ?_) (fun hh => by rw [hga] at hh; cases hh)) hK
        obtain ⟨arr, k1, k2, k3⟩ := hrel
        exact ⟨arr, k1, k2, fun i d' hi => (k3 i d' hi).mono (fun _ _ _ => rfl) (fun b o hs => stayed_none hfz hw d _ hs)⟩
      | own z es =>
        obtain ⟨_, hK⟩ := hK
        obtain ⟨ob, k1, k2⟩ := hrel
        cases hdst : o.dst with
        | none => rw [hdst] at hK; exact hK.elim
        | some d =>
          rw [hdst] at hK
          obtain ⟨m1, m2, m3⟩ := hK
          refine ⟨_, m3, ?_⟩
          rw [get_cons]
          refine ⟨_, hfz.putOwner m1 hw (norefs_ok m2) (ob := ob) (fun b hb => ⟨(k2 b hb).1, (k2 b hb).2.1⟩) ?_ ?_ ?_⟩
          · show Hdr _ (setb _ _ _ (d, 0)) _ _ _
            simp only [setb, if_true]; exact k1
          · intro i m z' es' hoo b hb
            cases i with
            | succ i => simp [T.ownAt] at hoo
            | zero =>
              simp only [T.ownAt, Option.some.injEq, Prod.mk.injEq] at hoo; obtain ⟨rfl, rfl, rfl⟩ := hoo
              simp only [setb, if_true] at hb
              obtain ⟨n1, n2, n3⟩ := k2 b hb
              refine n3.mono rfl (fun _ _ _ => rfl) (fun x o hs => ?_)
              rcases stayed_stab (d := d) (t := .own true z es) hfz hw hs with h4 | ⟨b', h4, h5⟩ | ⟨h4, _⟩
              · exact h4
              · exfalso
                rw [hb] at h4; simp at h4; subst h4; subst h5
                rcases hs with ⟨h6, _⟩ | ⟨_, _, h6⟩
                · omega
                · exact h6 hb
              · rw [hb] at h4; cases h4
          · intro cs hbx; cases hbx
end
end Ab

namespace Ab
open Go Go.RowKit

section
variable {base : Nat} {S0 : Nat → Nat → Prop} {w0 : World} {N : Nat} {a : Act} {w : World} {bk : Pl → Option Nat} {E : Env} {P : Program} {σ : St}

theorem step_now [Amb] {ops : Array Oper} {o : Oper} {K : St → Prop} (h : RB base S0 w0 N σ.get a w bk) (hg : guardL ops σ o = some []) (hs : ∀ Q, o.wp P a w (Kc base S0 w0 N K) Q) : Step P base S0 w0 N ops o K a w := by
  intro Q
  rw [guard_ok h hg, nil_all, if_pos rfl]
  exact hs Q

theorem step_nowG [Amb] {ops : Array Oper} {o : Oper} {gs : List Bool} {K : St → Prop} (h : RB base S0 w0 N σ.get a w bk) (hg : guardL ops σ o = some gs) (hga : gs.all id = true) (hs : ∀ Q, o.wp P a w (Kc base S0 w0 N K) Q) : Step P base S0 w0 N ops o K a w := by
  intro Q
  rw [guard_ok h hg, hga, if_pos rfl]
  exact hs Q

theorem frzS_RB [Amb] (h : RB base S0 w0 N σ.get a w bk) (l : List Nat) : RB base S0 w0 N (frzS σ l).get a w bk := by rw [frzS_get]; exact h.frzs l

theorem step_alloc [Amb] (hE : E.Ok) (h : RB base S0 w0 N σ.get a w bk) {ops : Array Oper} {o : Oper} (hg : guardL ops σ o = some []) {ty : TypeId} (ho : o.op = .alloc ty) {ti : TI} (htab : E.tab ty = some ti) {K : St → Prop}
    (hK : newO N o.dst σ (.box (boxOf E ti)) K) : Step E.P base S0 w0 N ops o K a w := by
  refine step_now h hg fun Q => ?_
  have ht := hE.2 _ _ htab
  have hr : (execOp a.eval o).run E.P w = .ok (.value (.pointer (some (at' w.heap.size 0)))) (w.alloc (.cells ti.zero.cells ty)) := by
    simp only [execOp, ho, Instr.alloc, Sem.run_bind, ht.run_zero, Result.andThen_ok, newVar, newRow, run_newObj, Sem.run_pure]
    rfl
  refine wp_value hr (newO_box h hK ?_ ?_)
  · have h1 := (ht.zeroL w (fun _ _ => True)).1
    rw [h1]
    unfold boxOf
    split
    · rename_i e hk
      rw [ht.len, ht.one (by rw [hk]; rfl)]; rfl
    · simp
  · intro i c hi
    obtain ⟨z1, z2, z3⟩ := ht.zeroL w (stab base S0 σ.get bk w.heap.size)
    unfold boxOf at hi
    split at hi
    · rename_i e hk
      have h1 := ht.len
      rw [ht.one (by rw [hk]; rfl)] at h1
      match i, hi with
      | 0, hi =>
        simp at hi; subst hi
        refine .inl ⟨rfl, none, ?_⟩
        have h4 := ht.zero_slice _ hk
        rw [h4]; rfl
    · rw [List.getElem?_map] at hi
      cases hzi : ti.zc[i]? with
      | none => rw [hzi] at hi; cases hi
      | some d =>
        rw [hzi] at hi; simp at hi; subst hi
        exact ⟨z3 i d hzi, z2 d (List.mem_of_getElem? hzi)⟩

theorem step_box [Amb] (h : RB base S0 w0 N σ.get a w bk) {ops : Array Oper} {o : Oper} (hg : guardL ops σ o = some []) {ty : TypeId} {x : Operand} (ho : o.op = .box ty x) {hint : D} {l : List Nat} {d : D} (hd : dat σ.get hint (rd σ.get [] x).2 = some (l, d))
    (hc : (rd σ.get [] x).1) {K : St → Prop} (hK : newO N o.dst (frzS σ l) (.box (d.cells.map .d)) K) : Step P base S0 w0 N ops o K a w := by
  refine step_now h hg fun Q => ?_
  obtain ⟨r1, _⟩ := rd_ok h nil_all x hc
  have r2 := dat_ok h r1 hd l (fun _ hs => hs)
  rw [← frzS_get] at r2
  have hr : (execOp a.eval o).run P w = .ok (.value (.pointer (some (at' w.heap.size 0)))) (w.alloc (.cells (a.eval x).cells ty)) := by
    simp only [execOp, ho, Instr.box, Sem.run_bind, newVar, newRow, run_newObj, Result.andThen_ok, Sem.run_pure]
    rfl
  obtain ⟨c1, c2, c3⟩ := r2.cells
  refine wp_value hr (newO_box (frzS_RB h l) hK (by simpa using c1) (fun i c hi => ?_))
  rw [List.getElem?_map] at hi
  cases hzi : d.cells[i]? with
  | none => rw [hzi] at hi; cases hi
  | some d' =>
    rw [hzi] at hi; simp at hi; subst hi
    exact ⟨c3 i d' hzi, c2 d' (List.mem_of_getElem? hzi)⟩

theorem Env.bytesOf_ok [Amb] {E : Env} (hE : E.Ok) {src dst : TypeId} (h : E.bytesOf src dst = true) : ∃ e, E.P.underlying src = some .string ∧ E.P.underlying dst = some (.slice e) ∧ E.P.underlying e = some (.int .u8) := by
  unfold Env.bytesOf at h
  split at h
  · rename_i h1 h2
    split at h
    · rename_i h3
      exact ⟨_, (hE.2 _ _ h1).string rfl, (hE.2 _ _ h2).slice rfl, (hE.2 _ _ h3).int rfl⟩
    · cases h
  · cases h
theorem step_bytes [Amb] (hE : E.Ok) (h : RB base S0 w0 N σ.get a w bk) {ops : Array Oper} {o : Oper} (hg : guardL ops σ o = some []) {src dst : TypeId} {x : Operand} (ho : o.op = .convert src dst x) (hb : E.bytesOf src dst = true) {s : List UInt8}
    (hx : (rd σ.get [] x).2 = .val (.str s)) (hc : (rd σ.get [] x).1) (hl : s.length ≤ 16777216) {K : St → Prop} (hK : fin N o.dst [] σ (.val (bytesD s)) K) : Step E.P base S0 w0 N ops o K a w := by
  refine step_now h hg fun Q => ?_
  obtain ⟨e, h1, h2, h3⟩ := Env.bytesOf_ok hE hb
  obtain ⟨r1, _⟩ := rd_ok h nil_all x hc
  rw [hx] at r1
  generalize hv : a.eval x = v at r1
  cases r1 with | str _ hs =>
  have hr : (execOp a.eval o).run E.P w = .ok (.value (.slice (some (at' w.heap.size 0)) s.length (grownCap w s.length 0 e))) (Go.Lib.bytesWorld w e ⟨s.toArray⟩) := by
    have := Go.Lib.run_convert_string_bytes (P := E.P) w src dst e ⟨s.toArray⟩ h1 h2 h3
    simp only [execOp, ho, hv, Sem.run_bind, this, Result.andThen_ok, Sem.run_pure]
    rfl
  have hw : Below w.heap.size w (Go.Lib.bytesWorld w e ⟨s.toArray⟩) := ⟨rfl, rfl, rfl, by rw [Go.Lib.bytesWorld_size]; omega, fun k hk => Go.Lib.bytesWorld_at_old w e _ k hk⟩
  refine wp_value hr (fin_val h hw rfl (fun d => ?_) hK)
  have hge := grownCap_ge w s.length 0 e
  have hcm := grownCap_le_maxLen w s.length 0 e hs
  have hlen : (s.map fun b => D.int .u8 (b.toNat : Int)).length = s.length := by simp
  have key : Rep (Go.Lib.bytesWorld w e ⟨s.toArray⟩) (stab base S0 (upd σ.get d (.val (bytesD s))) (clr bk d) (Go.Lib.bytesWorld w e ⟨s.toArray⟩).heap.size) (bytesD s) (.slice (some (at' w.heap.size 0)) (s.map fun b => D.int .u8 (b.toNat : Int)).length (grownCap w s.length 0 e)) := by
    refine .slice _ 1 rfl _ w.heap.size 0 _ (fun i _ => .int .u8 ((s.getD i 0).toNat : Int)) (by rw [hlen]; exact hge) hcm (fun x hx => ?_) (fun i x j c hi hj => ?_) (fun i x j c hi hj => ?_)
    · obtain ⟨b, _, rfl⟩ := List.mem_map.1 hx
      exact ⟨rfl, fun c hc => by simp [D.cells] at hc; subst hc; rfl⟩
    · rw [List.getElem?_map] at hi
      cases hsi : s[i]? with
      | none => rw [hsi] at hi; cases hi
      | some b =>
        rw [hsi] at hi; simp at hi; subst hi
        have hj0 : j = 0 := by
          have := (List.getElem?_eq_some_iff.1 hj).1
          simp [D.cells] at this; exact this
        subst hj0
        have hi' := (List.getElem?_eq_some_iff.1 hsi).1
        refine ⟨.inr ⟨by have := h.le; omega, by rw [Go.Lib.bytesWorld_size]; omega, fun p hp => ?_⟩, ?_⟩
        · have := (h.rng p _ (clr_some hp).2).2; omega
        · have := Go.Lib.bytesWorld_cell w e ⟨s.toArray⟩ i hi'
          simpa using this
    · rw [List.getElem?_map] at hi
      cases hsi : s[i]? with
      | none => rw [hsi] at hi; cases hi
      | some b =>
        rw [hsi] at hi; simp at hi; subst hi
        have hj0 : j = 0 := by
          have := (List.getElem?_eq_some_iff.1 hj).1
          simp [D.cells] at this; exact this
        subst hj0
        have hc0 : c = .int .u8 (b.toNat : Int) := by simpa [D.cells] using hj.symm
        subst hc0
        have hb8 := UInt8.toNat_lt b
        simp only [List.getD_eq_getElem?_getD, hsi, Option.getD_some]
        exact .int _ _ ⟨by rw [show IntKind.u8.min = 0 from by decide]; omega, by rw [show IntKind.u8.max = 255 from by decide]; omega⟩
  rw [hlen] at key
  exact key

theorem step_buildSlice [Amb] (hE : E.Ok) (h : RB base S0 w0 N σ.get a w bk) {ops : Array Oper} {o : Oper} {gs : List Bool} (hg : guardL ops σ o = some gs) (hga : gs.all id = true) {t e n : Nat} {parts : Array (Nat × Operand)} (ho : o.op = .buildSlice t n parts) {ti te : TI} (htab : E.tab t = some ti) (hk : ti.key = .slice e)
    (hte : E.tab e = some te) {c : Prop} {l : List Nat} {ds : List D} (hds : rdDs σ.get gs (parts.toList.map fun p => (E.elemZ e, p.2)) = some (c, l, ds)) (hc : c) (hpos : 0 < te.size) (hn : n * te.size ≤ 16777216) (hd : ∀ d ∈ ds, d.cells.length = te.size)
    (hi : ∀ p ∈ parts.toList, p.1 < n) {K : St → Prop} (hK : newO N o.dst (frzS σ l) (.own true te.zd (sliceParts te.zd (List.replicate n te.zd) ((parts.toList.map Prod.fst).zip ds))) K) : Step E.P base S0 w0 N ops o K a w := by
  refine step_nowG h hg hga fun Q => ?_
  have hsl := (hE.2 _ _ htab).slice hk
  have hte' := hE.2 _ _ hte
  have hzc := zd_cells hte'
  obtain ⟨e1, e2⟩ := rdDs_ok h hga _ hds hc l (fun _ hs => hs)
  rw [← frzS_get] at e2
  have hlen : ds.length = parts.size := by rw [e1]; simp
  have hzsz : te.zero.cells.size = te.size := by rw [(hte'.zeroL w (fun _ _ => True)).1, hte'.len]
  obtain ⟨r, r1, r2, r3⟩ := fill_row (w := w) (S := stab base S0 (frzS σ l).get bk w.heap.size) (sz := te.size) te.zd ((parts.toList.map Prod.fst).zip ds) ((parts.map fun p => (p.1, a.eval p.2)).toList) (List.replicate n te.zd) (madeCells te.zero.cells (n * te.size))
    (by simp [hlen]) (fun i p q hp hq => by
      obtain ⟨p1, p2⟩ := p
      have hz := List.getElem?_zip_eq_some.1 hp
      simp only [List.getElem?_map] at hz
      simp only [Array.toList_map, List.getElem?_map] at hq
      cases hpi : parts.toList[i]? with
      | none => rw [hpi] at hq; cases hq
      | some pi =>
        rw [hpi] at hq hz
        simp only [Option.map_some, Option.some.injEq] at hq hz
        obtain ⟨rfl, hz2⟩ := hz
        subst hq
        exact ⟨rfl, e2 i p2 _ hz2 (by simp only [List.getElem?_map, hpi, Option.map_some]; rfl)⟩)
    (fun p hp => by
      obtain ⟨p1, p2⟩ := p
      have h1 := List.of_mem_zip hp
      refine ⟨hd _ h1.2, ?_⟩
      obtain ⟨q, hq1, hq2⟩ := List.mem_map.1 h1.1
      have := hi q hq1
      simp only at hq2 ⊢
      simp; omega)
    (by rw [size_madeCells]; simp) (fun d hd' => by rw [List.eq_of_mem_replicate hd', hzc, hte'.len]) (zero_row hte' n)
  have hzl : te.zd.cells.length = te.size := by rw [hzc, hte'.len]
  simp only [Array.toList_map] at r1
  have hr : (execOp a.eval o).run E.P w = .ok (.value (.slice (some (at' w.heap.size 0)) n n)) (w.alloc (.cells r e)) := by
    have hsz := hte'.run_sizeOf w
    have hz0 := hte'.run_zero w
    have hm : (Array.range (n * te.size)).map (fun x => te.zero.cells[x % te.zero.cells.size]!) = madeCells te.zero.cells (n * te.size) := rfl
    by_cases hn0 : n * te.size = 0
    · have hnz : n = 0 := by
        rcases Nat.mul_eq_zero.1 hn0 with h | h
        · exact h
        · omega
      have hm0 : madeCells te.zero.cells (n * te.size) = #[] := by
        apply Array.eq_empty_of_size_eq_zero
        rw [size_madeCells]; exact hn0
      rw [hm0] at r1
      simp [execOp, ho, Instr.buildSlice, run_underlying hsl, hsz, hn0, newRow, Array.range_zero', r1]
    · simp [execOp, ho, Instr.buildSlice, run_underlying hsl, hsz, hz0, hn0, newRow, hm, r1]
      exact hn
  have hes : (sliceParts te.zd (List.replicate n te.zd) ((parts.toList.map Prod.fst).zip ds)).length = n := by rw [sliceParts_length]; simp
  have hfin := newO_row (m := true) (cap := n) (ty := e) (frzS_RB h l) hK (arr := r) (by rw [r2, size_madeCells, hzl]) (by rw [hes]; exact Nat.le_refl _) (by simp only [maxLen]; have := Nat.le_mul_of_pos_right n hpos; omega) (fun d hd' => ?_) (by rw [hzl]; exact r3)
  · rw [hes] at hfin
    exact wp_value hr hfin
  · rcases sliceParts_mem _ _ hd' with h1 | ⟨p, h1, rfl⟩
    · rw [List.eq_of_mem_replicate h1]
      refine ⟨rfl, fun c hc => ?_⟩
      rw [hzc] at hc
      have := hte'.zok
      rw [List.all_eq_true] at this
      exact (D.zok_rep (w := w) (S := fun _ _ => True) (this c hc)).2
    · obtain ⟨p1, p2⟩ := p
      have h2 := (List.of_mem_zip h1).2
      refine ⟨by rw [hd _ h2, hzl], fun c hc => ?_⟩
      obtain ⟨j, hj⟩ := List.getElem?_of_mem h2
      have hjl := (List.getElem?_eq_some_iff.1 hj).1
      obtain ⟨x, hx⟩ : ∃ x, (parts.toList.map fun p => (E.elemZ e, p.2))[j]? = some x := ⟨_, List.getElem?_eq_getElem (by rw [← e1]; exact hjl)⟩
      exact (e2 j _ x hj hx).cells.2.1 c hc
end
end Ab

namespace Ab
open Go Go.RowKit

section
variable {base : Nat} {S0 : Nat → Nat → Prop} {w0 : World} {N : Nat} {a : Act} {w : World} {bk : Pl → Option Nat} {E : Env} {P : Program} {σ : St}

theorem step_makeSlice [Amb] (hE : E.Ok) (h : RB base S0 w0 N σ.get a w bk) {ops : Array Oper} {o : Oper} (hg : guardL ops σ o = some []) {t e : Nat} {l c : Operand} (ho : o.op = .makeSlice t l c) {ti te : TI} (htab : E.tab t = some ti) (hk : ti.key = .slice e)
    (hte : E.tab e = some te) {kl kc : IntKind} {n m : Int} (hl : (rd σ.get [] l).2 = .val (.int kl n)) (hc : (rd σ.get [] c).2 = .val (.int kc m)) (hl1 : (rd σ.get [] l).1) (hc1 : (rd σ.get [] c).1) (h0 : 0 ≤ n) (h1 : n ≤ m)
    (hb : te.bytes * m ≤ 281474976710656) (h63 : m ≤ 9223372036854775807) {K : St → Prop} (hK : newO N o.dst σ (.own true te.zd (List.replicate n.toNat te.zd)) K) : Step E.P base S0 w0 N ops o K a w := by
  refine step_now h hg fun Q => ?_
  have hsl := (hE.2 _ _ htab).slice hk
  have hte' := hE.2 _ _ hte
  have hzc := zd_cells hte'
  have hzl : te.zd.cells.length = te.size := by rw [hzc, hte'.len]
  obtain ⟨inf, i1, i2, i3, i4⟩ := hte'.size_eq
  obtain ⟨r1, _⟩ := rd_ok h nil_all l hl1
  obtain ⟨r2, _⟩ := rd_ok h nil_all c hc1
  rw [hl] at r1
  rw [hc] at r2
  have hr := run_make (P := E.P) w t e inf te.zero hsl i1 i4 kl kc n m h0 h1 (by rw [i3]; exact hb) h63
  have hev : ∀ v u, a.eval l = v → a.eval c = u → v = .int kl n → u = .int kc m → (execOp a.eval o).run E.P w = .ok (.value (.slice (some ⟨w.heap.size, 0, none⟩) n.toNat m.toNat)) (w.alloc (.cells (madeCells te.zero.cells (m.toNat * inf.size)) e)) := by
    intro v u h1 h2 h3 h4
    simp only [execOp, ho, h1, h2, h3, h4, Sem.run_bind, hr, Result.andThen_ok, Sem.run_pure]
  have hrun := hev _ _ rfl rfl (by generalize a.eval l = v at *; cases r1; rfl) (by generalize a.eval c = v at *; cases r2; rfl)
  have hfin := newO_row (m := true) (cap := m.toNat) (ty := e) h hK (arr := madeCells te.zero.cells (m.toNat * inf.size)) (by rw [size_madeCells, hzl, i2]) (by simp; omega) (by simp only [maxLen]; omega) (fun d hd' => by
      rw [List.eq_of_mem_replicate hd']
      refine ⟨rfl, fun c hc => ?_⟩
      rw [hzc] at hc
      have := hte'.zok
      rw [List.all_eq_true] at this
      exact (D.zok_rep (w := w) (S := fun _ _ => True) (this c hc)).2) (fun i e' j c' he hj => by
      rw [hzl, i2]
      have hi := (List.getElem?_eq_some_iff.1 he).1
      rw [List.length_replicate] at hi
      rw [List.getElem?_replicate, if_pos hi] at he
      refine zero_row hte' m.toNat i e' j c' ?_ hj
      rw [List.getElem?_replicate, if_pos (by omega)]; exact he)
  rw [List.length_replicate] at hfin
  exact wp_value hrun hfin

theorem wp_skip' {o : Oper} {w' : World} {nx : Act → World → Prop} {Q : Exit → Act → World → Prop} (hd : o.dst = none) (hr : (execOp a.eval o).run P w = .ok .skip w') (h : nx a w') : o.wp P a w nx Q := by
  unfold Oper.wp; rw [hr]
  show nx (a.put o.dst undef) w'
  rw [hd]; exact h

theorem step_store_box [Amb] (hE : E.Ok) (h : RB base S0 w0 N σ.get a w bk) {ops : Array Oper} {o : Oper} (hg : guardL ops σ o = some []) {ty : TypeId} {ad x : Operand} (ho : o.op = .store ty ad x) {ti : TI} (htab : E.tab ty = some ti)
    {hint : D} {l : List Nat} {d : D} (hd : dat σ.get hint (rd σ.get [] x).2 = some (l, d)) {s off : Nat} (had : (rd σ.get [] ad).2 = .ptr s off) {cs : List C} (hbx : ((frzS σ l).get s).box? = some cs) (hc1 : (rd σ.get [] ad).1) (hc2 : (rd σ.get [] x).1)
    (hdst : o.dst = none) (hsz : d.cells.length = ti.size) (hfit : off + d.cells.length ≤ cs.length) {K : St → Prop} (hK : K ((s, .box (putC cs off d.cells)) :: frzS σ l)) : Step E.P base S0 w0 N ops o K a w := by
  refine step_now h hg fun Q => ?_
  obtain ⟨r1, _⟩ := rd_ok h nil_all x hc2
  obtain ⟨r2, _⟩ := rd_ok h nil_all ad hc1
  rw [had] at r2
  have hx := dat_ok h r1 hd l (fun _ hs => hs)
  have hf := frzS_RB h l
  have r3 := frzs_slots h l rfl r2
  rw [← frzS_get] at hx r3
  obtain ⟨b, e1, e2⟩ := r3 cs hbx
  obtain ⟨b', arr, ty', k1, k2, k3, k4⟩ := hf.box s cs hbx
  obtain rfl : b = b' := by rw [e1] at k1; simpa using k1
  obtain ⟨c1, c2, c3⟩ := hx.cells
  have hrun := run_storeAt hE htab (v := a.eval x) (off := off) (.inl k2) (by rw [c1, hsz]) (cells_one hx) (by rw [c1, k3]; exact hfit)
  obtain ⟨bk', hb⟩ := hf.storeBox (off := off) hbx e1 k2 hx hfit
  refine wp_skip' hdst (w' := _) ?_ ⟨_, hK, by rw [get_cons]; exact ⟨bk', hb⟩⟩
  simp only [execOp, ho, e2, Sem.run_bind, hrun, Result.andThen_ok, Sem.run_pure]

theorem step_store_own [Amb] (hE : E.Ok) (h : RB base S0 w0 N σ.get a w bk) {ops : Array Oper} {o : Oper} (hg : guardL ops σ o = some []) {ty : TypeId} {ad x : Operand} (ho : o.op = .store ty ad x) {ti : TI} (htab : E.tab ty = some ti)
    {q s off : Nat} {z : D} {es : List D} (hx : (rd σ.get [] x).2 = .alias (q, 0)) (hq : σ.get q = .own true z es) (had : (rd σ.get [] ad).2 = .ptr s off) {cs : List C} (hbx : (σ.get s).box? = some cs) (hc1 : (rd σ.get [] ad).1) (hc2 : (rd σ.get [] x).1)
    (hdst : o.dst = none) (hsz : ti.size = 1) (hfit : off < cs.length) (hqs : q ≠ s) (hno : noplace σ (s, off + 1) = true) {K : St → Prop} (hK : K ((s, .box (cs.set off (.own true z es))) :: (q, .junk) :: σ)) : Step E.P base S0 w0 N ops o K a w := by
  refine step_now h hg fun Q => ?_
  obtain ⟨r1, _⟩ := rd_ok h nil_all x hc2
  obtain ⟨r2, _⟩ := rd_ok h nil_all ad hc1
  rw [had] at r2
  rw [hx] at r1
  have hv : Hdr w (bk (q, 0)) z.cells.length es.length (a.eval x) := r1 true z es (by show (σ.get q).ownAt 0 = _; rw [hq]; rfl)
  obtain ⟨b, e1, e2⟩ := r2 cs hbx
  obtain ⟨b', arr, ty', k1, k2, k3, k4⟩ := h.box s cs hbx
  obtain rfl : b = b' := by rw [e1] at k1; simpa using k1
  have hcell := oneCell_cells hv.one
  have hrun := run_storeAt hE htab (v := a.eval x) (off := off) (.inl k2) (by rw [hcell, hsz]; rfl) (by rw [hcell]; intro u hu; simp at hu; subst hu; exact hv.one) (by rw [hcell, k3]; exact hfit)
  obtain ⟨bk', hb⟩ := h.storeOwn (off := off) hbx e1 k2 hq hv hfit hqs (noplace_ok hno)
  refine wp_skip' hdst (w' := _) ?_ ⟨_, hK, by rw [get_cons, get_cons]; exact ⟨bk', hb⟩⟩
  simp only [execOp, ho, e2, Sem.run_bind, hrun, Result.andThen_ok, Sem.run_pure]

theorem step_store_elem [Amb] (hE : E.Ok) (h : RB base S0 w0 N σ.get a w bk) {ops : Array Oper} {o : Oper} (hg : guardL ops σ o = some []) {ty : TypeId} {ad x : Operand} (ho : o.op = .store ty ad x) {ti : TI} (htab : E.tab ty = some ti)
    {hint : D} {l : List Nat} {d : D} (hd : dat σ.get hint (rd σ.get [] x).2 = some (l, d)) {p : Pl} {i off : Nat} (had : (rd σ.get [] ad).2 = .optr p i off) {z : D} {es : List D} (hown : ((frzS σ l).get p.1).ownAt p.2 = some (true, z, es)) (hc1 : (rd σ.get [] ad).1) (hc2 : (rd σ.get [] x).1)
    (hdst : o.dst = none) (hsz : d.cells.length = ti.size) (hi : i < es.length) (hfit : off + d.cells.length ≤ z.cells.length) {K : St → Prop} (hK : K ((p.1, ((frzS σ l).get p.1).setOwn p.2 (es.set i ((es.getD i z).setc off d.cells))) :: frzS σ l)) : Step E.P base S0 w0 N ops o K a w := by
  refine step_now h hg fun Q => ?_
  obtain ⟨r1, _⟩ := rd_ok h nil_all x hc2
  obtain ⟨r2, _⟩ := rd_ok h nil_all ad hc1
  rw [had] at r2
  have hx := dat_ok h r1 hd l (fun _ hs => hs)
  have hf := frzS_RB h l
  have r3 := frzs_slots h l rfl r2
  rw [← frzS_get] at hx r3
  obtain ⟨b, e1, e2⟩ := r3 true z es hown
  obtain ⟨k1, arr, ty', k2, k3, k4⟩ := hf.own p true z es hown b e1
  obtain ⟨c1, c2, c3⟩ := hx.cells
  have hil : (i + 1) * z.cells.length ≤ es.length * z.cells.length := Nat.mul_le_mul_right _ hi
  rw [Nat.add_mul] at hil
  have hrun := run_storeAt hE htab (v := a.eval x) (off := i * z.cells.length + off) k2 (by rw [c1, hsz]) (cells_one hx) (by rw [c1]; omega)
  have hb := hf.storeElem (off := off) hown e1 k2 hx hi hfit
  refine wp_skip' hdst (w' := _) ?_ ⟨_, hK, by rw [get_cons]; exact ⟨bk, hb⟩⟩
  simp only [execOp, ho, e2, Sem.run_bind, hrun, Result.andThen_ok, Sem.run_pure]

theorem put_twice (a : Act) (d : Nat) (u v : Value) : (a.put (some d) u).put (some d) v = a.put (some d) v := by
  simp [Act.put]

theorem leftT_refs (m : Bool) (z : D) (es : List D) : (leftT m z es).refs = [] := by cases m <;> rfl

theorem step_append_own [Amb] (hE : E.Ok) (h : RB base S0 w0 N σ.get a w bk) {ops : Array Oper} {o : Oper} (hg : guardL ops σ o = some []) {x y : Operand} {t e d : Nat} (ho : o.op = .call { callee := .builtin .append, args := #[x, y], argTypes := #[t, t] }) (hdst : o.dst = some d)
    {ti te : TI} (htab : E.tab t = some ti) (hk : ti.key = .slice e) (hte : E.tab e = some te) {l : List Nat} {z2 : D} {es2 : List D} (hy : dat σ.get (E.zd e) (rd σ.get [] y).2 = some (l, .slice z2 es2)) {s : Nat} (hx : (rd σ.get [] x).2 = .alias (s, 0))
    {m : Bool} {z : D} {es : List D} (hs : (frzS σ l).get s = .own m z es) (hc1 : (rd σ.get [] x).1) (hc2 : (rd σ.get [] y).1) (hd : d < N) (hsd : s ≠ d) (hno : norefs (frzS σ l) d = true) (hz : z.cells.length = te.size) (hz2 : z2.cells.length = te.size) (hpos : 0 < te.size)
    (hlen : (es.length + es2.length) * te.bytes ≤ 140737488355328) (hl63 : es.length + es2.length ≤ maxLen) {K : St → Prop} (hK : K ((d, .own m z (es ++ es2)) :: (s, leftT m z es) :: frzS σ l)) : Step E.P base S0 w0 N ops o K a w := by
  refine step_now h hg fun Q => ?_
  obtain ⟨r1, _⟩ := rd_ok h nil_all x hc1
  obtain ⟨r2, _⟩ := rd_ok h nil_all y hc2
  rw [hx] at r1
  have hyr := dat_ok h r2 hy l (fun _ hs => hs)
  have hf := frzS_RB h l
  have r3 := frzs_slots h l rfl r1
  rw [← frzS_get] at hyr r3
  have hv := r3 m z es (by show ((frzS σ l).get s).ownAt 0 = _; rw [hs]; rfl)
  have hno' := norefs_ok hno
  have hx1 := hf.xfer (v := a.eval x) hd hsd hs hno' hv
  have hno2 : ∀ s', s' ≠ d → d ∉ (upd (upd (frzS σ l).get s (leftT m z es)) d (.own m z es) s').refs := fun s' hs' => by
    rw [upd_ne _ _ hs']
    by_cases hss : s' = s
    · subst hss; rw [upd_same, leftT_refs]; simp
    · rw [upd_ne _ _ hss]; exact hno' s' hs'
  have hyr' : Rep w (stab base S0 (upd (upd (frzS σ l).get s (leftT m z es)) d (.own m z es)) (setb (clr (clr bk d) s) (d, 0) (bk (s, 0))) w.heap.size) (.slice z2 es2) (a.eval y) := by
    refine hyr.mono (fun _ _ _ => rfl) (fun b o hs' => ?_)
    rcases hs' with hs' | ⟨h1, h2, h3⟩
    · exact .inl hs'
    · refine .inr ⟨h1, h2, fun p hp => ?_⟩
      unfold setb at hp
      split at hp
      · rename_i hpd
        subst hpd
        have := h3 (s, 0) hp
        rw [hs] at this
        rw [upd_same]; exact this
      · obtain ⟨k1, k2⟩ := clr_some hp
        obtain ⟨k3, k4⟩ := clr_some k2
        rw [upd_ne _ _ k3, upd_ne _ _ k1]; exact h3 p k4
  obtain ⟨v', w', bk', hrun, hb⟩ := hx1.append hE (ty := o.type) htab hk hte hd (upd_same _ _ _) hno2 hz hz2 hpos hyr' hlen hl63
  rw [getD_put a d d _ (by rw [h.size]; exact hd), if_pos rfl] at hrun
  have hr : (execOp a.eval o).run E.P w = .ok (.value v') w' := by
    simp only [execOp, ho, resolve, invoke, builtin, Sem.run_bind, Sem.run_pure, Result.andThen_ok, List.map_toArray, List.map_cons, List.map_nil, hrun]
  refine wp_value hr ⟨_, hK, ?_⟩
  rw [hdst]
  rw [put_twice] at hb
  have hgg : St.get ((d, .own m z (es ++ es2)) :: (s, leftT m z es) :: frzS σ l) = upd (upd (upd (frzS σ l).get s (leftT m z es)) d (.own m z es)) d (.own m z (es ++ es2)) := by
    rw [get_cons, get_cons]
    funext q
    unfold upd
    split <;> rfl
  rw [hgg]
  exact ⟨bk', hb⟩

theorem step_append_nil [Amb] (hE : E.Ok) (h : RB base S0 w0 N σ.get a w bk) {ops : Array Oper} {o : Oper} (hg : guardL ops σ o = some []) {x y : Operand} {t e d : Nat} (ho : o.op = .call { callee := .builtin .append, args := #[x, y], argTypes := #[t, t] }) (hdst : o.dst = some d)
    {ti te : TI} (htab : E.tab t = some ti) (hk : ti.key = .slice e) (hte : E.tab e = some te) {l : List Nat} {z2 : D} {es2 : List D} (hy : dat σ.get (E.zd e) (rd σ.get [] y).2 = some (l, .slice z2 es2)) (hx : (rd σ.get [] x).2 = .nils)
    (hc1 : (rd σ.get [] x).1) (hc2 : (rd σ.get [] y).1) (hd : d < N) (hno : norefs (frzS σ l) d = true) (hz : te.zd.cells.length = te.size) (hz2 : z2.cells.length = te.size) (hpos : 0 < te.size)
    (hlen : es2.length * te.bytes ≤ 140737488355328) (hl63 : es2.length ≤ maxLen) {K : St → Prop} (hK : K ((d, .own true te.zd es2) :: frzS σ l)) : Step E.P base S0 w0 N ops o K a w := by
  refine step_now h hg fun Q => ?_
  obtain ⟨r1, _⟩ := rd_ok h nil_all x hc1
  obtain ⟨r2, _⟩ := rd_ok h nil_all y hc2
  rw [hx] at r1
  obtain ⟨oa, hox⟩ := r1
  have hyr := dat_ok h r2 hy l (fun _ hs => hs)
  have hf := frzS_RB h l
  rw [← frzS_get] at hyr
  have hno' := norefs_ok hno
  have hx1 := hf.putOwner (t := .own true te.zd []) (v := a.eval x) (ob := none) hd (Below.refl _ _) hno' (fun b hb => by cases hb) (by show Hdr _ (setb _ _ _ (d, 0)) _ _ _; simp only [setb, if_true]; exact .inl ⟨rfl, oa, hox⟩)
    (fun i m z es hoo b hb => by
      cases i with
      | zero => simp [setb] at hb
      | succ i => simp [T.ownAt] at hoo) (fun cs hb => by cases hb)
  have hno2 : ∀ s', s' ≠ d → d ∉ (upd (frzS σ l).get d (.own true te.zd []) s').refs := fun s' hs' => by rw [upd_ne _ _ hs']; exact hno' s' hs'
  have hyr' : Rep w (stab base S0 (upd (frzS σ l).get d (.own true te.zd [])) (setb (clr bk d) (d, 0) none) w.heap.size) (.slice z2 es2) (a.eval y) :=
    hyr.mono (fun _ _ _ => rfl) (fun b o hs' => stab_new hf _ (fun b hb => by cases hb) (Nat.le_refl _) hs')
  obtain ⟨v', w', bk', hrun, hb⟩ := hx1.append hE (ty := o.type) htab hk hte hd (upd_same _ _ _) hno2 hz hz2 hpos hyr' (by simpa using hlen) (by simpa using hl63)
  rw [getD_put a d d _ (by rw [h.size]; exact hd), if_pos rfl] at hrun
  have hr : (execOp a.eval o).run E.P w = .ok (.value v') w' := by
    simp only [execOp, ho, resolve, invoke, builtin, Sem.run_bind, Sem.run_pure, Result.andThen_ok, List.map_toArray, List.map_cons, List.map_nil, hrun]
  refine wp_value hr ⟨_, hK, ?_⟩
  rw [hdst]
  rw [put_twice] at hb
  have hgg : St.get ((d, .own true te.zd es2) :: frzS σ l) = upd (upd (frzS σ l).get d (.own true te.zd [])) d (.own true te.zd ([] ++ es2)) := by
    rw [get_cons]
    funext q
    unfold upd
    split <;> rfl
  rw [hgg]
  exact ⟨bk', hb⟩

theorem RB.sealed [Amb] {g : Nat → T} (h : RB base S0 w0 N g a w bk) {s : Nat} {cs : List C} (hs : s < N) (hg : g s = .box cs) (hm : cs.any C.mut = false) :
    RB base S0 w0 N (upd g s (.val (.ref (cs.map C.dat)))) a w (clr bk s) ∧ Rep w (stab base S0 (upd g s (.val (.ref (cs.map C.dat)))) (clr bk s) w.heap.size) (.ref (cs.map C.dat)) (a.tmps.getD s undef) := by
  have hb0 : (g s).box? = some cs := by rw [hg]; rfl
  obtain ⟨b, arr, ty, h1, h2, h3, h4⟩ := h.box s cs hb0
  have h5 := h.slots s
  rw [hg] at h5
  obtain ⟨b', e1, e2⟩ := h5
  obtain rfl : b = b' := by rw [h1] at e1; simpa using e1
  have hrep : Rep w (stab base S0 (upd g s (.val (.ref (cs.map C.dat)))) (clr bk s) w.heap.size) (.ref (cs.map C.dat)) (.pointer (some (at' b 0))) := by
    have key : ∀ (j : Nat) (c : D), (cs.map C.dat)[j]? = some c → ∃ c0, cs[j]? = some c0 ∧ c0.dat = c := fun j c hj => by
      rw [List.getElem?_map] at hj
      cases hc : cs[j]? with
      | none => rw [hc] at hj; cases hj
      | some c0 => rw [hc] at hj; exact ⟨c0, rfl, by simpa using hj⟩
    refine .ref _ b 0 (fun j => arr.getD j undef) (fun c hc => ?_) (fun j c hj => ⟨.inr ⟨(h.rng _ _ h1).1, (h.rng _ _ h1).2, fun p hp => ?_⟩, ?_⟩) (fun j c hj => ?_)
    · obtain ⟨j, hj⟩ := List.getElem?_of_mem hc
      obtain ⟨c0, k1, rfl⟩ := key j c hj
      exact (RC.dat_frozen h hb0 hm k1 (h4 _ _ k1)).2
    · obtain ⟨k1, k2⟩ := clr_some hp
      exact absurd (by rw [h.inj _ _ _ k2 h1]) k1
    · obtain ⟨c0, k1, rfl⟩ := key j c hj
      rw [Nat.zero_add]
      exact cell_arr h2 (by have := (List.getElem?_eq_some_iff.1 k1).1; omega)
    · obtain ⟨c0, k1, rfl⟩ := key j c hj
      exact (RC.dat_frozen h hb0 hm k1 (h4 _ _ k1)).1.mono (fun _ _ _ => rfl) (fun _ _ hs => stab_clr g bk _ (Nat.le_refl _) hs)
  have hput := h.put (d := s) (t := .val (.ref (cs.map C.dat))) hs (Below.refl _ _) rfl hrep
  have ha : a.put (some s) (.pointer (some (at' b 0))) = a := by
    have hlt : s < a.tmps.size := by rw [h.size]; exact hs
    have hg' : a.tmps[s] = .pointer (some (at' b 0)) := by
      rw [Array.getD_eq_getD_getElem?, Array.getElem?_eq_getElem hlt] at e2; exact e2
    show ({ a with tmps := a.tmps.setIfInBounds s (.pointer (some (at' b 0))) } : Act) = a
    rw [← hg', Array.setIfInBounds_def, dif_pos hlt, Array.set_getElem_self]
  rw [ha] at hput
  exact ⟨hput, by rw [e2]; exact hrep⟩

theorem sealS_ok [Amb] : ∀ (l : List Operand) {σ σ' : St} {bk : Pl → Option Nat} {ds : List D}, RB base S0 w0 N σ.get a w bk → sealS N σ l = some (σ', ds) →
    ∃ bk', RB base S0 w0 N σ'.get a w bk' ∧ ds.length = l.length ∧ (∀ b o, stab base S0 σ.get bk w.heap.size b o → stab base S0 σ'.get bk' w.heap.size b o) ∧
      ∀ (i : Nat) (d : D) (x : Operand), ds[i]? = some d → l[i]? = some x → Rep w (stab base S0 σ'.get bk' w.heap.size) d (a.eval x)
  | [], σ, σ', bk, ds, h, he => by
    simp only [sealS, Option.some.injEq, Prod.mk.injEq] at he
    obtain ⟨rfl, rfl⟩ := he
    exact ⟨bk, h, rfl, fun _ _ hs => hs, fun i d x hi => by simp at hi⟩
  | .tmp s :: l, σ, σ', bk, ds, h, he => by
    unfold sealS at he
    split at he
    · rename_i cs hg
      split at he
      · rename_i hc
        split at he
        · rename_i σ1 ds1 hr
          simp only [Option.some.injEq, Prod.mk.injEq] at he
          obtain ⟨rfl, rfl⟩ := he
          obtain ⟨k1, k2⟩ := h.sealed hc.1 hg hc.2
          rw [← get_cons] at k1 k2
          obtain ⟨bk', i1, i2, i3, i4⟩ := sealS_ok l k1 hr
          refine ⟨bk', i1, by simp [i2], fun b o hs => i3 b o (by rw [get_cons]; exact stab_clr _ _ _ (Nat.le_refl _) hs), fun i d x hi hx => ?_⟩
          match i, hi, hx with
          | 0, hi, hx => simp at hi hx; subst hi hx; exact k2.mono (fun _ _ _ => rfl) i3
          | i + 1, hi, hx => exact i4 i d x (by simpa using hi) (by simpa using hx)
        · cases he
      · cases he
    · rename_i cs hg
      split at he
      · rename_i σ1 ds1 hr
        simp only [Option.some.injEq, Prod.mk.injEq] at he
        obtain ⟨rfl, rfl⟩ := he
        obtain ⟨bk', i1, i2, i3, i4⟩ := sealS_ok l h hr
        refine ⟨bk', i1, by simp [i2], i3, fun i d x hi hx => ?_⟩
        match i, hi, hx with
        | 0, hi, hx =>
          simp at hi hx; subst hi hx
          have := h.slots s
          rw [hg] at this
          exact Rep.mono this (fun _ _ _ => rfl) i3
        | i + 1, hi, hx => exact i4 i d x (by simpa using hi) (by simpa using hx)
      · cases he
    · cases he
  | .const _ :: l, _, _, _, _, _, he => by simp [sealS] at he
  | .global _ :: l, _, _, _, _, _, he => by simp [sealS] at he
  | .func _ :: l, _, _, _, _, _, he => by simp [sealS] at he

theorem step_makeFunc [Amb] (h : RB base S0 w0 N σ.get a w bk) {ops : Array Oper} {o : Oper} (hg : guardL ops σ o = some []) {f : FuncId} {caps : Array Operand} (ho : o.op = .makeFunc (.func f) #[] caps) {σ' : St} {ds : List D}
    (hs : sealS N σ caps.toList = some (σ', ds)) {K : St → Prop} (hK : fin N o.dst [] σ' (.val (.fn f ds)) K) : Step E.P base S0 w0 N ops o K a w := by
  intro Q
  rw [guard_ok h hg, if_pos (by rfl)]
  obtain ⟨bk', h1, h2, h3, h4⟩ := sealS_ok _ h hs
  have hrun : (execOp a.eval o).run E.P w = .ok (.value (.func (.func f) #[] (caps.map a.eval))) w := by
    simp [execOp, ho, Instr.makeFunc]
  refine wp_value hrun (fin_val h1 (Below.refl _ _) rfl (fun d => ?_) hK)
  have hrep : Rep w (stab base S0 σ'.get bk' w.heap.size) (.fn f ds) (.func (.func f) #[] (caps.map a.eval)) := by
    refine .fn f ds _ (by simp [h2]) (fun i c hi => ?_)
    have hlt : i < caps.size := by have := (List.getElem?_eq_some_iff.1 hi).1; simp at h2; omega
    have hx : caps.toList[i]? = some caps[i] := by simp [hlt]
    have := h4 i c _ hi hx
    rw [Array.getD_eq_getD_getElem?, Array.getElem?_map, Array.getElem?_eq_getElem hlt]
    exact this
  exact Rep.put h1 (Below.refl _ _) hrep

theorem nilS_ok {gs : List Bool} {op : BinOp} {y : Operand} {tx : T} {es : List D} (h : nilS gs op y tx = some es) : gs = [] ∧ op = .eql ∧ y = .const (.slice none 0 0) ∧ ∃ z, tx = .val (.slice z es) := by
  unfold nilS at h
  split at h
  · simp only [Option.some.injEq] at h; subst h; exact ⟨rfl, rfl, rfl, _, rfl⟩
  · cases h

theorem isSl_ok [Amb] (hE : E.Ok) {t : TypeId} (h : isSl E t = true) : ∃ e, E.P.underlying t = some (.slice e) := by
  unfold isSl at h
  split at h
  · rename_i e _ _ _ _ _ htab
    exact ⟨e, (hE.2 _ _ htab).slice rfl⟩
  · cases h

theorem run_equalIn_nilS {P : Program} {w : World} {t e : TypeId} (d : Nat) (h : P.underlying t = some (.slice e)) (a : Option Addr) (n c : Nat) :
    (Op.equalIn (d + 1) t (.slice a n c) (.slice none 0 0)).run P w = .ok a.isNone w := by
  cases a <;> simp [Op.equalIn, run_underlying h]

theorem run_eql_nilS {P : Program} {w : World} {t e : TypeId} (h : P.underlying t = some (.slice e)) (a : Option Addr) (n c : Nat) :
    (Op.equal t (.slice a n c) (.slice none 0 0)).run P w = .ok a.isNone w := run_equalIn_nilS 9999 h a n c

theorem guard_nilS (t : TypeId) (x y : Operand) (a : Option Addr) (n c : Nat) : eqGuard .eql t x y (.slice a n c) (.slice none 0 0) = pure () := rfl

theorem step_eqnil [Amb] (hE : E.Ok) (h : RB base S0 w0 N σ.get a w bk) {ops : Array Oper} {o : Oper} (hg : guardL ops σ o = some []) {xt : TypeId} {x : Operand} {gd : _} (ho : o.op = .binOp .eql xt x (.const (.slice none 0 0)) gd) {z : D} {es : List D}
    (hx : (rd σ.get [] x).2 = .val (.slice z es)) (hc : (rd σ.get [] x).1) (ht : isSl E xt = true) {K : St → Prop} (hK : ∀ q : NilB es, fin N o.dst [] σ (.val (.bool q.b)) K) : Step E.P base S0 w0 N ops o K a w := by
  intro Q
  rw [guard_ok h hg, if_pos (by rfl)]
  obtain ⟨r1, _⟩ := rd_ok h nil_all x hc
  rw [hx] at r1
  obtain ⟨e, he⟩ := isSl_ok hE ht
  have key : ∃ ad n c, a.eval x = .slice ad n c ∧ (es ≠ [] → ad.isNone = false) := by
    generalize a.eval x = v at r1
    cases r1 with
    | nil _ ad cap h => exact ⟨ad, 0, cap, rfl, fun hh => absurd rfl hh⟩
    | slice => exact ⟨_, _, _, rfl, fun _ => rfl⟩
  obtain ⟨ad, n, c, e1, e2⟩ := key
  have hrun : (execOp a.eval o).run E.P w = .ok (.value (.bool ad.isNone)) w := by
    have e0 : a.eval (.const (.slice none 0 0)) = .slice none 0 0 := rfl
    simp [execOp, ho, e1, e0, guard_nilS, binOp, run_eql_nilS he]
  exact wp_value hrun (fin_val (gs := []) (t := .val (.bool ad.isNone)) h (Below.refl _ _) rfl (fun d => Rep.bool _) (hK ⟨ad.isNone, e2⟩))

theorem stp_ok [Amb] (hE : E.Ok) (h : RB base S0 w0 N σ.get a w bk) {ops : Array Oper} {o : Oper} {K : St → Prop} (hs : stp E N ops o σ K) : Step E.P base S0 w0 N ops o K a w := by
  unfold stp at hs
  split at hs
  · exact hs.elim
  rename_i gs hg
  split at hs
  · rename_i ty ho
    split at hs
    · rename_i ti htab; exact step_alloc hE h hg ho htab hs
    · exact hs.elim
  · rename_i ty x ho
    split at hs
    · rename_i l d hd; exact step_box h hg ho hd hs.1 hs.2
    · exact hs.elim
  · rename_i t n parts ho
    split at hs
    · rename_i e _ _ _ _ _ htab
      split at hs
      · rename_i te c l ds hte hds
        exact step_buildSlice hE h hg hs.1 ho htab rfl hte hds hs.2.1 hs.2.2.1 hs.2.2.2.1 hs.2.2.2.2.1 hs.2.2.2.2.2.1 hs.2.2.2.2.2.2
      · exact hs.elim
    · exact hs.elim
  · rename_i t l c ho
    split at hs
    · rename_i e _ _ _ _ _ _ _ n _ m htab hl hc
      split at hs
      · rename_i te hte
        obtain ⟨h1, h2, h3, h4, h5, h6, h7, h8⟩ := hs
        exact step_makeSlice hE h hg ho htab rfl hte hl hc h1 h2 h3 h4 h5 h6 h8
      · exact hs.elim
    · exact hs.elim
  · rename_i f fst caps ho
    obtain ⟨fst⟩ := fst
    split at hs
    · rename_i σ' ds hfst hse
      simp only at hfst; subst hfst
      exact step_makeFunc h hg ho hse hs
    · exact hs.elim
  · rename_i ty ad x ho
    split at hs
    · rename_i ti l d s off htab hd had
      split at hs
      · rename_i q z es hmv
        obtain ⟨m1, m2, m3, m4⟩ := movS_ok hmv
        split at hs
        · rename_i cs hbx
          obtain ⟨h1, h2, h3, h4, h5, h6⟩ := hs
          exact step_store_own hE h hg ho htab m1 m2 had hbx h1 h2 h3 h4 h5 m3 m4 h6
        · exact hs.elim
      split at hs
      · rename_i cs hbx
        obtain ⟨h1, h2, h3, h4, h5, h6⟩ := hs
        exact step_store_box hE h hg ho htab hd had hbx h1 h2 h3 h4 h5 h6
      · exact hs.elim
    · rename_i ti l d p i off htab hd had
      split at hs
      · rename_i z es hown
        obtain ⟨h1, h2, h3, h4, h5, h6, h7⟩ := hs
        exact step_store_elem hE h hg ho htab hd had hown h1 h2 h3 h4 h5 h6 h7
      · exact hs.elim
    · exact hs.elim
  · rename_i args ats ho
    obtain ⟨args⟩ := args
    obtain ⟨ats⟩ := ats
    split at hs
    · rename_i x y t t' d hargs hats hdst
      simp only at hargs hats; subst hargs hats
      split at hs
      · rename_i e _ _ _ _ _ htab
        split at hs
        · rename_i te l z2 es2 s hte hy hx
          split at hs
          · rename_i m z es hsl
            obtain ⟨h1, h2, h3, h4, h5, h6, h7, h8, h9, h10, h11, h12⟩ := hs
            subst h3
            exact step_append_own hE h hg ho hdst htab rfl hte hy hx hsl h1 h2 h4 h5 h6 h7 h8 h9 h10 h11 h12
          · exact hs.elim
        · rename_i te l z2 es2 hte hy hx
          obtain ⟨h1, h2, h3, h4, h5, h6, h7, h8, h9, h10, h11⟩ := hs
          subst h3
          exact step_append_nil hE h hg ho hdst htab rfl hte hy hx h1 h2 h4 h5 h6 h7 h8 h9 h10 h11
        · exact hs.elim
      · exact hs.elim
    · exact hs.elim
  · rename_i f args ats ho
    split at hs
    · rename_i fid caps c l ds hf hds
      obtain ⟨h1, r, h2, h3⟩ := hs
      exact step_call h hg ho hf hds h1 h3 h2
    · exact hs.elim
  · rename_i src dst x ho
    split at hs
    · rename_i s hb hx
      exact step_bytes hE h hg ho hb hx hs.1 hs.2.1 hs.2.2
    · rw [← ho] at hs
      split at hs
      · rename_i c l t hv
        exact step_valA hE h hg hv hs.1 hs.2
      · exact hs.elim
  · rename_i op xt x y gd ho
    split at hs
    · rename_i es hn
      obtain ⟨rfl, rfl, rfl, z, hz⟩ := nilS_ok hn
      obtain ⟨h1, h2, h3⟩ := hs
      exact step_eqnil hE h hg ho hz h1 h2 h3
    · rw [← ho] at hs
      split at hs
      · rename_i c l t hv
        exact step_valA hE h hg hv hs.1 hs.2
      · exact hs.elim
  · split at hs
    · rename_i c l t hv
      exact step_valA hE h hg hv hs.1 hs.2
    · exact hs.elim

/-- A region that keeps the order of the text. -/
theorem walk_ok [Amb] (hE : E.Ok) {ops : Array Oper} {Q : Exit → Act → World → Prop} {K : St → Prop} (hQ : ∀ a w, Kc base S0 w0 N K a w → Q .normal a w) : ∀ (l : List Oper) {σ : St} {a : Act} {w : World}, R base S0 w0 N σ.get a w →
    walk E N ops l σ K → wpList E.P ops Q l a w
  | [], σ, a, w, h, hs => hQ a w ⟨σ, hs, h⟩
  | o :: l, σ, a, w, ⟨bk, h⟩, hs => by
    refine wpList_step fun K' hK' => ?_
    have hst := stp_ok hE h (K := fun σ' => walk E N ops l σ' K) hs Q
    split at hst
    · rename_i hw
      rw [if_pos hw]
      exact Oper.wp_mono (fun a' w' ⟨σ', h1, h2⟩ => hK' a' w' (walk_ok hE hQ l h2 h1)) hst
    · rename_i hw
      rw [if_neg hw]
      obtain ⟨σ', h1, h2⟩ := hst
      exact hK' _ _ (walk_ok hE hQ l h2 h1)
end
end Ab

namespace Ab
open Go Go.RowKit

/-- Slot content t may be forgotten down to t'. -/
def TW : T → T → Prop
  | _, .junk => True
  | .nils, .nils => True
  | .nils, .val (.slice _ es) => es = []
  | .nils, .own _ _ es => es = []
  | .val d, .val d' => d = d'
  | .opt gs t, .opt gs' t' => gs = gs' ∧ t = t' ∧ t.plain = true
  | .box cs, .box cs' => cs = cs'
  | .own m z es, .own m' z' es' => (m' = true → m = true) ∧ z = z' ∧ es = es'
  | .own _ z es, .val d => d = .slice z es
  | .lent v m z es, .lent v' m' z' es' => v = v' ∧ (m' = true → m = true) ∧ z = z' ∧ es = es'
  | .tup ds, .tup ds' => ds = ds'
  | .alias p, .alias p' => p = p'
  | .ptr s o, .ptr s' o' => s = s' ∧ o = o'
  | .optr p i o, .optr p' i' o' => p = p' ∧ i = i' ∧ o = o'
  | _, _ => False

/-- A slot that others speak of must not come to own. -/
def keepT : T → T → Bool
  | .own .., .own .. => true
  | _, .own .. => false
  | .lent .., .lent .. => true
  | _, .lent .. => false
  | _, _ => true

def Weak (σ σ' : St) : Prop := (∀ p ∈ σ', TW (σ.get p.1) p.2) ∧ ∀ p ∈ σ', ∀ r ∈ p.2.refs, keepT (σ.get r) (σ'.get r) = true

def ownsB : T → T → Bool
  | .own .., .own .. => true
  | .lent .., .lent .. => true
  | .box _, .box _ => true
  | _, _ => false

section
variable {base : Nat} {S0 : Nat → Nat → Prop} {w0 : World} {N : Nat} {a : Act} {w : World} {bk : Pl → Option Nat} {E : Env} {P : Program} {σ : St} {g g' : Nat → T}

theorem hdr_rep [Amb] {S S' : Nat → Nat → Prop} {ob : Option Nat} {z : D} {es : List D} {v : Value} (hv : Hdr w ob z.cells.length es.length v) (hc : ∀ b, ob = some b → Cont w S b z.cells.length es) (hb : ∀ b o, ob = some b → o < es.length * z.cells.length → S' b o)
    (hS : ∀ b o, S b o → S' b o) : Rep w S' (.slice z es) v := by
  rcases hv with ⟨hn, o, rfl⟩ | ⟨b, cap, arr, ty, hob, rfl, hh, hsz, hn, hm⟩
  · have : es = [] := List.eq_nil_of_length_eq_zero hn
    subst this
    exact .nil z o 0 (Nat.zero_le _)
  · obtain ⟨h1, arr', ty', h2, h3, h4⟩ := hc b hob
    obtain ⟨rfl, rfl⟩ := hh.det h2
    refine .slice z _ rfl es b 0 cap (fun i j => arr.getD (i * z.cells.length + j) undef) hn hm h1 (fun i e j c he hj => ?_) (fun i e j c he hj => (h4 i e j c he hj).mono (fun _ _ _ => rfl) hS)
    have hi : i < es.length := (List.getElem?_eq_some_iff.1 he).1
    have hj' : j < e.cells.length := (List.getElem?_eq_some_iff.1 hj).1
    have hsz' := (h1 e (List.mem_of_getElem? he)).1
    have hlt : i * z.cells.length + j < es.length * z.cells.length := by
      have : (i + 1) * z.cells.length ≤ es.length * z.cells.length := Nat.mul_le_mul_right _ hi
      rw [Nat.add_mul] at this; omega
    simp only [Nat.zero_add]
    exact ⟨hb b _ hob hlt, cell_hc hh (by omega)⟩

theorem TW_own {t t' : T} (h : TW t t') {i : Nat} {m : Bool} {z : D} {es : List D} (ho : t'.ownAt i = some (m, z, es)) (hk : keepT t t' = true ∨ ownsB t t' = true) : ∃ m0, t.ownAt i = some (m0, z, es) ∧ (m = true → m0 = true) ∧ ownsB t t' = true := by
  cases t' with
  | own m' z' es' =>
    cases i with
    | succ i => simp [T.ownAt] at ho
    | zero =>
      simp only [T.ownAt, Option.some.injEq, Prod.mk.injEq] at ho; obtain ⟨rfl, rfl, rfl⟩ := ho
      cases t <;> simp [TW, keepT, ownsB] at h hk
      obtain ⟨h1, rfl, rfl⟩ := h
      exact ⟨_, rfl, h1, rfl⟩
  | lent u' m' z' es' =>
    cases i with
    | succ i => simp [T.ownAt] at ho
    | zero =>
      simp only [T.ownAt, Option.some.injEq, Prod.mk.injEq] at ho; obtain ⟨rfl, rfl, rfl⟩ := ho
      cases t <;> simp [TW, keepT, ownsB] at h hk
      obtain ⟨rfl, h1, rfl, rfl⟩ := h
      exact ⟨_, rfl, h1, rfl⟩
  | box cs' =>
    cases t <;> simp [TW] at h
    subst h
    exact ⟨m, ho, fun hh => hh, rfl⟩
  | _ => simp [T.ownAt] at ho

theorem RB.weak [Amb] (h : RB base S0 w0 N g a w bk) (h1 : ∀ s, TW (g s) (g' s)) (h2 : ∀ s, ∀ r ∈ (g' s).refs, keepT (g r) (g' r) = true) :
    RB base S0 w0 N g' a w (fun p => if ownsB (g p.1) (g' p.1) then bk p else none) := by
  have hlt : ∀ p b, (if ownsB (g p.1) (g' p.1) then bk p else none) = some b → ownsB (g p.1) (g' p.1) = true ∧ bk p = some b := fun p b hb => by
    split at hb
    · exact ⟨by assumption, hb⟩
    · cases hb
  have hS : ∀ b o, stab base S0 g bk w.heap.size b o → stab base S0 g' (fun p => if ownsB (g p.1) (g' p.1) then bk p else none) w.heap.size b o := by
    intro b o hs
    rcases hs with hs | ⟨k1, k2, k3⟩
    · exact .inl hs
    · refine .inr ⟨k1, k2, fun p hp => ?_⟩
      obtain ⟨e1, e2⟩ := hlt p b hp
      have := k3 p e2
      have ht := h1 p.1
      cases hgp' : g' p.1 with
      | box cs' =>
        rw [hgp'] at ht e1
        cases hgp : g p.1 <;> rw [hgp] at ht e1 <;> simp [TW, ownsB] at ht e1
        subst ht; rw [hgp] at this; exact this
      | own m' z' es' =>
        rw [hgp'] at ht e1
        cases hgp : g p.1 <;> rw [hgp] at ht e1 <;> simp [TW, ownsB] at ht e1
        obtain ⟨m1, rfl, rfl⟩ := ht
        rw [hgp] at this
        cases hp2 : p.2 with
        | succ i => rw [hp2] at this; simp [T.ownAt, limOf] at this
        | zero =>
          rw [hp2] at this
          simp only [T.ownAt] at this ⊢
          rename_i m z es
          cases m
          · cases m'
            · exact this
            · exact absurd (m1 rfl) (by simp)
          · simp [limOf] at this
      | lent u' m' z' es' =>
        rw [hgp'] at ht e1
        cases hgp : g p.1 <;> rw [hgp] at ht e1 <;> simp [TW, ownsB] at ht e1
        obtain ⟨rfl, m1, rfl, rfl⟩ := ht
        rw [hgp] at this
        cases hp2 : p.2 with
        | succ i => rw [hp2] at this; simp [T.ownAt, limOf] at this
        | zero =>
          rw [hp2] at this
          simp only [T.ownAt] at this ⊢
          rename_i m z es
          cases m
          · cases m'
            · exact this
            · exact absurd (m1 rfl) (by simp)
          · simp [limOf] at this
      | _ => rw [hgp'] at e1; cases hgp : g p.1 <;> rw [hgp] at e1 <;> simp [ownsB] at e1
  have hr : ∀ s, ∀ r ∈ (g' s).refs, Refine w w bk (fun p => if ownsB (g p.1) (g' p.1) then bk p else none) g g' r := fun s r hr => by
    have hk := h2 s r hr
    refine ⟨fun i m z es ho => ?_, fun cs hb => ?_⟩
    · obtain ⟨m0, e1, _, e3⟩ := TW_own (h1 r) ho (.inl hk)
      exact ⟨m0, es, e1, rfl, by simp only [e3, if_true], fun _ _ => .of_eq rfl⟩
    · have htr := h1 r
      have hgr' := box_eq hb
      rw [hgr'] at htr
      cases hgr : g r <;> rw [hgr] at htr <;> simp [TW] at htr
      subst htr
      exact ⟨_, rfl, by simp [hgr, hgr', ownsB]⟩
  refine h.coreG (fun _ => True) h.defers h.size (fun _ hh => absurd trivial hh) (fun _ hh => absurd trivial hh) (Below.refl _ _) (fun p b hb => h.rng p b (hlt p b hb).2) (fun p q b hp hq => h.inj p q b (hlt p b hp).2 (hlt q b hq).2)
    (fun _ _ _ => rfl) hS (fun _ hh => absurd trivial hh) (fun _ _ hh => absurd trivial hh) (fun _ hh => absurd trivial hh) (fun s _ => ?_) (fun s _ i m z es ho b hb => ?_) (fun s _ cs hb => ?_)
  · have h0 := h.slots s
    have ht := h1 s
    have hrs := hr s
    have same : ∀ t : T, t.plain = true → g s = t → (∀ r ∈ t.refs, Refine w w bk (fun p => if ownsB (g p.1) (g' p.1) then bk p else none) g g' r) →
        RT w (stab base S0 g' (fun p => if ownsB (g p.1) (g' p.1) then bk p else none) w.heap.size) (fun p => if ownsB (g p.1) (g' p.1) then bk p else none) g' s t (a.tmps.getD s undef) := fun t hp hgs hrt => by
      rw [hgs] at h0
      exact RT.frame (fun _ _ _ => rfl) hS h0 (fun hh => by rw [hp] at hh; cases hh) hrt
    cases hgs' : g' s with
    | junk => trivial
    | nils => rw [hgs'] at ht hrs; cases hgs : g s <;> rw [hgs] at ht <;> simp [TW] at ht; exact same _ rfl hgs hrs
    | val d =>
      rw [hgs'] at ht hrs
      cases hgs : g s with
      | nils =>
        rw [hgs] at ht h0
        cases d <;> simp [TW] at ht
        subst ht
        obtain ⟨o, ho⟩ := h0
        rw [ho]
        exact .nil _ o 0 (Nat.zero_le _)
      | val d0 => rw [hgs] at ht; simp only [TW] at ht; subst ht; exact same _ rfl hgs hrs
      | own m z es =>
        rw [hgs] at ht h0
        simp only [TW] at ht; subst ht
        refine hdr_rep h0 (fun b hb => h.own (s, 0) m z es (by show (g s).ownAt 0 = _; rw [hgs]; rfl) b hb) (fun b o hb _ => .inr ⟨(h.rng _ _ hb).1, (h.rng _ _ hb).2, fun p hp => ?_⟩) hS
        obtain ⟨e1, e2⟩ := hlt p b hp
        have := h.inj p (s, 0) b e2 hb
        subst this
        rw [hgs, hgs'] at e1; simp [ownsB] at e1
      | _ => rw [hgs] at ht; simp [TW] at ht
    | opt gs t =>
      rw [hgs'] at ht hrs
      cases hgs : g s <;> rw [hgs] at ht <;> simp [TW] at ht
      obtain ⟨rfl, rfl, hp⟩ := ht
      exact same _ hp hgs hrs
    | box cs =>
      rw [hgs'] at ht
      cases hgs : g s <;> rw [hgs] at ht h0 <;> simp [TW] at ht
      subst ht
      obtain ⟨b, e1, e2⟩ := h0
      exact ⟨b, by simp [hgs, hgs', ownsB, e1], e2⟩
    | own m z es =>
      rw [hgs'] at ht
      cases hgs : g s <;> rw [hgs] at ht h0 <;> simp [TW] at ht
      · subst ht
        obtain ⟨o, ho⟩ := h0
        exact .inl ⟨rfl, o, ho⟩
      · obtain ⟨m1, rfl, rfl⟩ := ht
        show Hdr w (if ownsB (g s) (g' s) then bk (s, 0) else none) _ _ _
        rw [hgs, hgs']
        exact h0
    | lent u m z es =>
      rw [hgs'] at ht
      cases hgs : g s <;> rw [hgs] at ht h0 <;> simp [TW] at ht
      obtain ⟨rfl, m1, rfl, rfl⟩ := ht
      show Hdr w (if ownsB (g s) (g' s) then bk (s, 0) else none) _ _ _
      rw [hgs, hgs']
      exact h0
    | tup ds => rw [hgs'] at ht hrs; cases hgs : g s <;> rw [hgs] at ht <;> simp [TW] at ht; subst ht; exact same _ rfl hgs hrs
    | alias p => rw [hgs'] at ht hrs; cases hgs : g s <;> rw [hgs] at ht <;> simp [TW] at ht; subst ht; exact same _ rfl hgs hrs
    | ptr s2 o => rw [hgs'] at ht hrs; cases hgs : g s <;> rw [hgs] at ht <;> simp [TW] at ht; obtain ⟨rfl, rfl⟩ := ht; exact same _ rfl hgs hrs
    | optr p i o => rw [hgs'] at ht hrs; cases hgs : g s <;> rw [hgs] at ht <;> simp [TW] at ht; obtain ⟨rfl, rfl, rfl⟩ := ht; exact same _ rfl hgs hrs
  · obtain ⟨e1, e2⟩ := hlt (s, i) b hb
    obtain ⟨m0, k1, _, _⟩ := TW_own (h1 s) ho (.inr e1)
    exact (h.own (s, i) m0 z es k1 b e2).mono rfl (fun _ _ _ => rfl) hS
  · have ht := h1 s
    have hgs' := box_eq hb
    rw [hgs'] at ht
    cases hgs : g s <;> rw [hgs] at ht <;> simp [TW] at ht
    subst ht
    obtain ⟨b, arr, ty, k1, k2, k3, k4⟩ := h.box s _ (by rw [hgs]; rfl)
    have ho : ownsB (g s) (g' s) = true := by rw [hgs, hgs']; rfl
    refine ⟨b, arr, ty, by simp [ho, k1], k2, k3, fun i c hi => ?_⟩
    simp only [ho, if_true]
    exact (k4 i c hi).mono (fun _ _ _ => rfl) hS (fun _ _ => .of_eq rfl)

theorem R.weak [Amb] {σ' : St} (h : R base S0 w0 N σ.get a w) (hw : Weak σ σ') : R base S0 w0 N σ'.get a w := by
  obtain ⟨bk, h⟩ := h
  have mem : ∀ (τ : St) (s : Nat), τ.get s = .junk ∨ (s, τ.get s) ∈ τ := fun τ s => by
    induction τ with
    | nil => exact .inl rfl
    | cons p r ih =>
      obtain ⟨k, t⟩ := p
      simp only [St.get]
      split
      · rename_i hk; subst hk; exact .inr (by simp)
      · rcases ih with ih | ih
        · exact .inl ih
        · exact .inr (by simp [ih])
  refine ⟨_, h.weak (g' := σ'.get) (fun s => ?_) (fun s r hr => ?_)⟩
  · rcases mem σ' s with hj | hm
    · rw [hj]; cases σ.get s <;> trivial
    · exact hw.1 _ hm
  · rcases mem σ' s with hj | hm
    · rw [hj] at hr; simp [T.refs] at hr
    · exact hw.2 _ hm r hr

/-! ### Code -/
def AWp [Amb] (E : Env) (base : Nat) (S0 : Nat → Nat → Prop) (w0 : World) (N : Nat) (c : Code) (σ : St) (Q : Exit → St → Prop) : Prop :=
  ∀ a w, R base S0 w0 N σ.get a w → c.wp E.P (fun e a' w' => ∃ σ', Q e σ' ∧ R base S0 w0 N σ'.get a' w') a w

/-- What is kept between two regions. -/
def T.stays : T → T
  | .opt _ _ => .junk
  | t => t
def clean (V : List Nat) (σ : St) : St := V.map fun s => (s, (σ.get s).stays)

/-- Slots that speak of slot x are forgotten. -/
def dropT (x : Nat) : T → T
  | .opt _ _ => .junk
  | .alias p => if p.1 == x then .junk else .alias p
  | .ptr s o => if s == x then .junk else .ptr s o
  | .optr p i o => if p.1 == x then .junk else .optr p i o
  | t => t
def dropR (x : Nat) : St → St
  | [] => []
  | (k, t) :: σ => (k, dropT x t) :: dropR x σ

theorem dropR_get (x : Nat) (σ : St) (s : Nat) : (dropR x σ).get s = dropT x (σ.get s) := by
  induction σ with
  | nil => rfl
  | cons p σ ih =>
    obtain ⟨k, t⟩ := p
    show St.get ((k, dropT x t) :: dropR x σ) s = dropT x (St.get ((k, t) :: σ) s)
    simp only [St.get]
    split
    · rfl
    · exact ih

theorem dropT_ref (x : Nat) (t : T) : x ∉ (dropT x t).refs := by
  cases t <;> simp only [dropT] <;> try split
  all_goals simp_all [T.refs]
  all_goals (intro h; subst h; simp_all)

theorem dropR_ok [Amb] (x : Nat) (h : R base S0 w0 N σ.get a w) : R base S0 w0 N (dropR x σ).get a w := by
  obtain ⟨bk, h⟩ := h
  refine ⟨_, h.weak (g' := (dropR x σ).get) (fun s => ?_) (fun s r _ => ?_)⟩
  · rw [dropR_get]
    cases σ.get s <;> simp only [dropT] <;> try split
    all_goals simp [TW]
  · rw [dropR_get]
    cases σ.get r <;> simp only [dropT] <;> try split
    all_goals rfl

/-- A row that a passing slot owns goes over to the slot that stays. -/
def settle (V : List Nat) (N : Nat) : St → List Nat → St
  | σ, [] => σ
  | σ, x :: r =>
    match σ.get x with
    | .alias (s, 0) =>
      if V.contains s then settle V N σ r
      else
        match σ.get s with
        | .own m z es => if x < N then settle V N ((x, .own m z es) :: (s, leftT m z es) :: dropR x σ) r else settle V N σ r
        | _ => settle V N σ r
    | _ => settle V N σ r

theorem settle_ok [Amb] (V : List Nat) : ∀ (l : List Nat) {σ : St}, R base S0 w0 N σ.get a w → R base S0 w0 N (settle V N σ l).get a w
  | [], σ, h => h
  | x :: r, σ, h => by
    unfold settle
    split
    · rename_i s hx
      split
      · exact settle_ok V r h
      · split
        · rename_i m z es hs
          split
          · rename_i hc
            refine settle_ok V r ?_
            have hsx : s ≠ x := by intro e; subst e; rw [hx] at hs; cases hs
            have hv0 := h
            obtain ⟨bk, h⟩ := dropR_ok x h
            have hx' : (dropR x σ).get x = .alias (s, 0) := by
              rw [dropR_get, hx]; simp only [dropT]; rw [if_neg (by simpa using hsx)]
            have hs' : (dropR x σ).get s = .own m z es := by rw [dropR_get, hs]; rfl
            have h0 := h.slots x
            rw [hx'] at h0
            have hv := h0 m z es (by show ((dropR x σ).get s).ownAt 0 = _; rw [hs']; rfl)
            have := h.xfer (v := a.tmps.getD x undef) hc hsx hs' (fun s' _ => by rw [dropR_get]; exact dropT_ref x _) hv
            have hput : a.put (some x) (a.tmps.getD x undef) = a := by
              simp only [Act.put]
              have : a.tmps.setIfInBounds x (a.tmps.getD x undef) = a.tmps := by
                apply Array.ext_getElem?
                intro j
                rw [Array.getElem?_setIfInBounds]
                split
                · rename_i hj; subst hj
                  rw [h.size, if_pos hc, Array.getD_eq_getD_getElem?, Array.getElem?_eq_getElem (by rw [h.size]; exact hc)]; rfl
                · rfl
              rw [this]
            rw [hput] at this
            rw [get_cons, get_cons]
            exact ⟨_, this⟩
          · exact settle_ok V r h
        · exact settle_ok V r h
    · exact settle_ok V r h

theorem TW.stays (t : T) : TW t t.stays := by cases t <;> simp [TW, T.stays]

theorem clean_get (V : List Nat) (σ : St) (s : Nat) : (clean V σ).get s = (σ.get s).stays ∨ (clean V σ).get s = .junk := by
  induction V with
  | nil => exact .inr rfl
  | cons x V ih =>
    show St.get ((x, (σ.get x).stays) :: clean V σ) s = _ ∨ St.get ((x, (σ.get x).stays) :: clean V σ) s = _
    simp only [St.get]
    split
    · rename_i h; subst h; exact .inl rfl
    · exact ih

theorem keepT_stays (t : T) : keepT t t.stays = true := by cases t <;> rfl
theorem keepT_junk (t : T) : keepT t .junk = true := by cases t <;> rfl

theorem clean_ok [Amb] (V : List Nat) (h : R base S0 w0 N σ.get a w) : R base S0 w0 N (clean V σ).get a w := by
  obtain ⟨bk, h⟩ := h
  refine ⟨_, h.weak (g' := (clean V σ).get) (fun s => ?_) (fun s r _ => ?_)⟩
  · rcases clean_get V σ s with hh | hh <;> rw [hh]
    · exact TW.stays _
    · cases σ.get s <;> trivial
  · rcases clean_get V σ r with hh | hh <;> rw [hh]
    · exact keepT_stays _
    · exact keepT_junk _

theorem AWp.region [Amb] (hE : E.Ok) (V : List Nat) {id : Nat} {ops : Array Oper} {Q : Exit → St → Prop} (h : walk E N ops ops.toList σ fun σ' => Q .normal (clean V (settle V N σ' V))) : AWp E base S0 w0 N (.region id ops false) σ Q :=
  fun _ _ hR => wp_region_list (walk_ok hE (fun _ _ ⟨_, hq, hr⟩ => ⟨_, hq, clean_ok V (settle_ok V V hr)⟩) _ hR h)

theorem AWp.mono [Amb] {c : Code} {Q Q' : Exit → St → Prop} (h : AWp E base S0 w0 N c σ Q) (hq : ∀ e σ', Q e σ' → Q' e σ') : AWp E base S0 w0 N c σ Q' :=
  fun a w hR => wp_mono (h a w hR) fun e _ _ ⟨σ', h1, h2⟩ => ⟨σ', hq e σ' h1, h2⟩

theorem AWp.weak [Amb] {c : Code} {Q : Exit → St → Prop} {σ' : St} (hw : Weak σ σ') (h : AWp E base S0 w0 N c σ' Q) : AWp E base S0 w0 N c σ Q :=
  fun a w hR => h a w (hR.weak hw)

def thenQ (K : St → Prop) (Q : Exit → St → Prop) : Exit → St → Prop
  | .normal, σ => K σ
  | e, σ => Q e σ

theorem AWp.seq [Amb] {x y : Code} {Q : Exit → St → Prop} (h : AWp E base S0 w0 N x σ (thenQ (fun σ' => AWp E base S0 w0 N y σ' Q) Q)) : AWp E base S0 w0 N (.seq x y) σ Q := by
  intro a w hR
  refine wp_seq (wp_mono (h a w hR) fun e a' w' ⟨σ', h1, h2⟩ => ?_)
  cases e with
  | normal => exact h1 a' w' h2
  | _ => exact ⟨σ', h1, h2⟩

theorem AWp.skip [Amb] {Q : Exit → St → Prop} (h : Q .normal σ) : AWp E base S0 w0 N .skip σ Q := fun _ _ hR => wp_skip ⟨σ, h, hR⟩
theorem AWp.exit [Amb] {i : Nat} {Q : Exit → St → Prop} (h : Q (.exit i) σ) : AWp E base S0 w0 N (.exit i) σ Q := fun _ _ hR => wp_exit ⟨σ, h, hR⟩
theorem AWp.ret [Amb] {Q : Exit → St → Prop} (h : Q .ret σ) : AWp E base S0 w0 N .ret σ Q := fun _ _ hR => wp_ret ⟨σ, h, hR⟩

def blockQ (id : Nat) (Q : Exit → St → Prop) : Exit → St → Prop
  | .exit i, σ => if i = id then Q .normal σ else Q (.exit i) σ
  | e, σ => Q e σ

theorem AWp.block [Amb] {id : Nat} {c : Code} {Q : Exit → St → Prop} (h : AWp E base S0 w0 N c σ (blockQ id Q)) : AWp E base S0 w0 N (.block id c) σ Q := by
  intro a w hR
  refine wp_block (wp_mono (h a w hR) fun e a' w' ⟨σ', h1, h2⟩ => ?_)
  cases e with
  | exit i =>
    simp only [blockQ] at h1
    simp only [Exit.inBlock]
    split
    · rename_i hi; rw [if_pos hi] at h1; exact ⟨σ', h1, h2⟩
    · rename_i hi; rw [if_neg hi] at h1; exact ⟨σ', h1, h2⟩
  | _ => exact ⟨σ', h1, h2⟩

theorem AWp.cond [Amb] {s : Nat} {b : Bool} {x y : Code} {Q : Exit → St → Prop} (hc : σ.get s = .val (.bool b)) (h1 : b = true → AWp E base S0 w0 N x σ Q) (h2 : b = false → AWp E base S0 w0 N y σ Q) : AWp E base S0 w0 N (.cond (.tmp s) x y) σ Q := by
  intro a w hR
  obtain ⟨bk, hb⟩ := id hR
  have h0 := hb.slots s
  rw [hc] at h0
  have hev : a.eval (.tmp s) = .bool b := by show a.tmps.getD s undef = _; generalize a.tmps.getD s undef = v at h0; cases h0; rfl
  exact wp_cond_split hev (fun hb => h1 hb a w hR) (fun hb => h2 hb a w hR)

/-- A LOOP: what holds at the head of each round is said by a state for each index; each round lowers the measure. -/
theorem AWp.loop [Amb] {ι : Type} (S : ι → St) (μ : ι → Nat) (i₀ : ι) {c : Code} {Q : Exit → St → Prop} (h0 : Weak σ (S i₀)) (hr : ∀ i, AWp E base S0 w0 N c (S i) (thenQ (fun σ' => ∃ j, Weak σ' (S j) ∧ μ j < μ i) Q)) : AWp E base S0 w0 N (.loop c) σ Q := by
  intro a w hR
  refine wp_loop_ghost (fun n a w => ∃ i, μ i = n ∧ R base S0 w0 N (S i).get a w) (μ i₀) ⟨i₀, rfl, hR.weak h0⟩ (fun n a w ⟨i, hn, hi⟩ => ?_)
  refine wp_mono (hr i a w hi) fun e a' w' ⟨σ', hq, hR'⟩ => ?_
  cases e with
  | normal =>
    obtain ⟨j, hw, hlt⟩ := hq
    exact ⟨μ j, hn ▸ hlt, j, rfl, hR'.weak hw⟩
  | _ => exact ⟨σ', hq, hR'⟩
end
end Ab

namespace Ab
open Go Go.RowKit

/-- Some value holds this datum. -/
def D.Ok (d : D) : Prop := ∃ w S v, Rep w S d v

theorem Ok_int {k : IntKind} {n : Int} (h : D.Ok (.int k n)) : k.min ≤ n ∧ n ≤ k.max := by obtain ⟨w, S, v, h⟩ := h; cases h; assumption
theorem Ok_i64 [Amb] {n : Int} (h : D.Ok (.int .i64 n)) : -9223372036854775808 ≤ n ∧ n ≤ 9223372036854775807 := by have := Ok_int h; rwa [IntKind.max_i64, show IntKind.i64.min = -9223372036854775808 from by decide] at this
theorem Ok_agg {cs : List D} (h : D.Ok (.agg cs)) : ∀ c ∈ cs, D.Ok c := by
  obtain ⟨w, S, v, h⟩ := h
  intro c hc
  obtain ⟨i, hi⟩ := List.getElem?_of_mem hc
  cases h with | agg _ vs hl hf h => exact ⟨w, S, _, h i c hi⟩
theorem Ok_slice {z : D} {es : List D} (h : D.Ok (.slice z es)) : es.length ≤ 9223372036854775807 ∧ ∀ e ∈ es, e.cells.length = z.cells.length ∧ ∀ c ∈ e.cells, D.Ok c := by
  obtain ⟨w, S, v, h⟩ := h
  cases h with
  | nil => exact ⟨by simp, fun e he => by simp at he⟩
  | slice _ sz hz _ b off cap u hlen hcap hsz hc hr =>
    refine ⟨by simp only [maxLen] at hcap; omega, fun e he => ⟨by rw [← hz]; exact (hsz e he).1, fun c hcm => ?_⟩⟩
    obtain ⟨i, hi⟩ := List.getElem?_of_mem he
    obtain ⟨j, hj⟩ := List.getElem?_of_mem hcm
    exact ⟨w, S, _, hr i e j c hi hj⟩
def entryFrom : Nat → List D → St
  | _, [] => []
  | k, d :: ds => (k, .val d) :: entryFrom (k + 1) ds
/-- The frame as the call begins. -/
def entry (args : List D) : St := entryFrom 0 args

/-- What a result variable holds. -/
def RV (E : Env) (σ : St) : ResultVar → D → Prop
  | .tmp t, d =>
    match σ.get t with
    | .val x => x = d
    | .nils => (match d with | .slice _ es => es = [] | _ => False)
    | .own _ z es => .slice z es = d
    | .alias p => match (σ.get p.1).ownAt p.2 with | some (_, z, es) => .slice z es = d | none => False
    | _ => False
  | .cell t ty, d =>
    match σ.get t, E.tab ty with
    | .box cs, some ti => if ti.key.agg then ti.size = cs.length ∧ .agg (cs.map C.dat) = d else (match cs with | [c] => c.dat = d | _ => False)
    | _, _ => False

def resV (tmps : Array Value) (x : ResultVar) : Sem Value :=
  match x with
  | .tmp t => pure (tmps.getD t undef)
  | .cell p t => do loadVar t (← asAddr (tmps.getD p undef))

def RVs (E : Env) (σ : St) : List ResultVar → List D → Prop
  | [], [] => True
  | x :: xs, d :: ds => RV E σ x d ∧ RVs E σ xs ds
  | _, _ => False

def RetOk (E : Env) (σ : St) (rs : List ResultVar) (r : RetT) : Prop :=
  match r with
  | .d d => (match rs with | [x] => RV E σ x d | _ => False)
  | .tup ds => rs.length ≠ 1 ∧ RVs E σ rs ds
  | .own z es =>
    match rs with
    | [.tmp t] =>
      match σ.get t with
      | .own true z' es' => z' = z ∧ es' = es
      | .nils => es = []
      | .alias (s, 0) => (match σ.get s with | .own true z' es' => z' = z ∧ es' = es | _ => False)
      | _ => False
    | _ => False

section
variable {base : Nat} {S0 : Nat → Nat → Prop} {w0 : World} {N : Nat} {a : Act} {w : World} {bk : Pl → Option Nat} {E : Env} {P : Program} {σ : St} {g : Nat → T}

theorem entryFrom_get [Amb] : ∀ (args : List D) (k s : Nat), (entryFrom k args).get s = if k ≤ s then (match args[s - k]? with | some d => .val d | none => .junk) else .junk
  | [], k, s => by simp [entryFrom, St.get]
  | d :: ds, k, s => by
    simp only [entryFrom, St.get]
    by_cases h : k = s
    · subst h; simp
    · rw [if_neg h, entryFrom_get ds (k + 1) s]
      by_cases h1 : k + 1 ≤ s
      · rw [if_pos h1, if_pos (by omega), show s - k = (s - (k + 1)) + 1 by omega]; rfl
      · rw [if_neg h1, if_neg (by omega)]

theorem entry_RB [Amb] {args : List D} {vs : Array Value} {S : Nat → Nat → Prop} {w : World} {n : Nat} (hG : Amb.G w S) (hS : ∀ b o, S b o → b < w.heap.size) (hl : vs.size = args.length) (hr : ∀ i d, args[i]? = some d → Rep w S d (vs.getD i undef)) (hn : args.length ≤ n) :
    RB w.heap.size S w n (entry args).get { tmps := vs ++ Array.replicate (n - vs.size) undef, defers := [] } w (fun _ => none) where
  amb := hG
  defers := rfl
  size := by simp; omega
  hb := rfl
  below := Below.refl _ _
  rng := fun p b hb => by cases hb
  inj := fun p q b hb => by cases hb
  slots := fun s => by
    show RT _ _ _ _ _ ((entryFrom 0 args).get s) _
    rw [entryFrom_get]
    rw [if_pos (Nat.zero_le _), Nat.sub_zero]
    cases ha : args[s]? with
    | none => trivial
    | some d =>
      have h1 := (List.getElem?_eq_some_iff.1 ha).1
      have h2 : (vs ++ Array.replicate (n - vs.size) undef).getD s undef = vs.getD s undef := by
        rw [Array.getD_eq_getD_getElem?, Array.getElem?_append_left (by omega), Array.getD_eq_getD_getElem?]
      rw [h2]
      exact (hr s d ha).mono (fun _ _ _ => rfl) (fun b o hs => .inl ⟨hS b o hs, hs⟩)
  own := fun p m z es ho => by
    have : ((entry args).get p.1).ownAt p.2 = none := by
      show ((entryFrom 0 args).get p.1).ownAt p.2 = none
      rw [entryFrom_get, if_pos (Nat.zero_le _)]
      split <;> rfl
    rw [this] at ho; cases ho
  box := fun s cs hb => by
    have : ((entry args).get s).box? = none := by
      show ((entryFrom 0 args).get s).box? = none
      rw [entryFrom_get, if_pos (Nat.zero_le _)]
      split <;> rfl
    rw [this] at hb; cases hb

/-- All that stays when the call is over. -/
def allS (base : Nat) (S0 : Nat → Nat → Prop) (n : Nat) (b o : Nat) : Prop := (b < base ∧ S0 b o) ∨ (base ≤ b ∧ b < n)

theorem stab_all {n b o : Nat} (h : stab base S0 g bk n b o) : allS base S0 n b o := by
  rcases h with h | ⟨h1, h2, _⟩
  · exact .inl h
  · exact .inr ⟨h1, h2⟩

theorem own_all [Amb] (h : RB base S0 w0 N g a w bk) {p : Pl} {m : Bool} {z : D} {es : List D} {v : Value} (ho : (g p.1).ownAt p.2 = some (m, z, es)) (hv : Hdr w (bk p) z.cells.length es.length v) : Rep w (allS base S0 w.heap.size) (.slice z es) v :=
  hdr_rep hv (fun b hb => h.own p m z es ho b hb) (fun b _ hb _ => .inr (h.rng p b hb)) (fun _ _ hs => stab_all hs)

theorem RC.all [Amb] (h : RB base S0 w0 N g a w bk) {s i : Nat} {cs : List C} {c : C} {v : Value} (hg : (g s).box? = some cs) (hi : cs[i]? = some c) (hc : RC w (stab base S0 g bk w.heap.size) (bk (s, i + 1)) c v) : Rep w (allS base S0 w.heap.size) c.dat v ∧ c.dat.flat = true := by
  cases c with
  | d x => exact ⟨hc.1.mono (fun _ _ _ => rfl) (fun _ _ hs => stab_all hs), hc.2⟩
  | own m z es => exact ⟨own_all h (p := (s, i + 1)) (m := m) (by show (g s).ownAt (i + 1) = _; rw [box_eq hg]; simp [T.ownAt, hi, C.own?]) hc, rfl⟩

theorem RV_ok [Amb] (hE : E.Ok) (h : RB base S0 w0 N σ.get a w bk) {x : ResultVar} {d : D} (hx : RV E σ x d) :
    ∃ v, (resV a.tmps x).run E.P w = .ok v w ∧ Rep w (allS base S0 w.heap.size) d v := by
  cases x with
  | tmp t =>
    refine ⟨_, rfl, ?_⟩
    have h0 := h.slots t
    simp only [RV] at hx
    split at hx
    · rename_i y hg; rw [hg] at h0; subst hx; exact Rep.mono h0 (fun _ _ _ => rfl) (fun _ _ hs => stab_all hs)
    · rename_i hg
      rw [hg] at h0
      split at hx
      · subst hx
        obtain ⟨o, ho⟩ := h0
        rw [ho]; exact .nil _ o 0 (Nat.zero_le _)
      · exact hx.elim
    · rename_i m z es hg
      rw [hg] at h0; subst hx
      exact own_all h (p := (t, 0)) (m := m) (by show (σ.get t).ownAt 0 = _; rw [hg]; rfl) h0
    · rename_i p hg
      rw [hg] at h0
      split at hx
      · rename_i m z es ho
        subst hx
        exact own_all h ho (h0 m z es ho)
      · exact hx.elim
    · exact hx.elim
  | cell t ty =>
    simp only [RV] at hx
    split at hx
    · rename_i cs ti hg htab
      have h0 := h.slots t
      rw [hg] at h0
      obtain ⟨b, e1, e2⟩ := h0
      obtain ⟨b', arr, ty', k1, k2, k3, k4⟩ := h.box t cs (by rw [hg]; rfl)
      obtain rfl : b = b' := by rw [e1] at k1; simpa using k1
      by_cases hagg : ti.key.agg = true
      · rw [if_pos hagg] at hx
        obtain ⟨hx1, rfl⟩ := hx
        have hl := run_load_agg hE htab hagg b 0 w (fun j => arr.getD j undef) (fun j hj => by rw [Nat.zero_add]; exact cell_arr k2 (by omega))
        refine ⟨_, ?_, .agg (cs.map C.dat) ((List.range ti.size).map fun j => arr.getD j undef).toArray (by simp; omega) (fun x hx => ?_) (fun i x hi => ?_)⟩
        · simp only [Instr.loadAt, Instr.sureAddr, pure_bind] at hl
          simp only [resV, e2, asAddr, pure_bind]; exact hl
        · obtain ⟨c, hc, rfl⟩ := List.mem_map.1 hx
          obtain ⟨i, hi⟩ := List.getElem?_of_mem hc
          exact (RC.all h (by rw [hg]; rfl) hi (k4 i c hi)).2
        · rw [List.getElem?_map] at hi
          cases hci : cs[i]? with
          | none => rw [hci] at hi; cases hi
          | some c =>
            rw [hci] at hi; simp at hi; subst hi
            have hlt := (List.getElem?_eq_some_iff.1 hci).1
            rw [getD_range _ _ _ (by omega)]
            exact (RC.all h (by rw [hg]; rfl) hci (k4 i c hci)).1
      · rw [if_neg hagg] at hx
        split at hx
        · rename_i c
          subst hx
          have hl := run_load_one hE htab (by simpa using hagg) b 0 w _ (cell_arr k2 (by rw [k3]; simp))
          refine ⟨_, ?_, (RC.all h (by rw [hg]; rfl) (i := 0) rfl (k4 0 c rfl)).1⟩
          simp only [Instr.loadAt, Instr.sureAddr, pure_bind] at hl
          simp only [resV, e2, asAddr, pure_bind]; exact hl
        · exact hx.elim
    · exact hx.elim

theorem RVs_ok [Amb] (hE : E.Ok) (h : RB base S0 w0 N σ.get a w bk) : ∀ (rs : List ResultVar) (ds : List D), RVs E σ rs ds →
    ∃ vs : List Value, (rs.mapM (resV a.tmps)).run E.P w = .ok vs w ∧ vs.length = ds.length ∧ rs.length = ds.length ∧
      ∀ i d, ds[i]? = some d → Rep w (allS base S0 w.heap.size) d (vs.getD i undef)
  | [], [], _ => ⟨[], by simp, rfl, rfl, fun i d hi => by simp at hi⟩
  | [], _ :: _, h => h.elim
  | _ :: _, [], h => h.elim
  | x :: rs, d :: ds, hx => by
    obtain ⟨v, h1, h2⟩ := RV_ok hE h hx.1
    obtain ⟨vs, k1, k2, k3, k4⟩ := RVs_ok hE h rs ds hx.2
    refine ⟨v :: vs, ?_, by simp [k2], by simp [k3], fun i d' hi => ?_⟩
    · rw [List.mapM_cons]
      simp only [Sem.run_bind, h1, Result.andThen_ok, k1, Sem.run_pure]
    · match i, hi with
      | 0, hi => simp at hi; subst hi; exact h2
      | i + 1, hi => simpa using k4 i d' (by simpa using hi)

/-- A FUNCTION MEETS ITS CONTRACT if its body, begun with the arguments, leaves the results. -/
theorem ACalls.intro [Amb] (hE : E.Ok) {f : FuncId} {fn : Func} {c : Code} {args : List D} {r : RetT} {rs : List ResultVar} (hf : E.P.funcs[f]? = some fn) (hname : (fn.name == "runtime.NumGoroutine") = false) (hb : fn.body = some c) (hN : fn.ntmps = N) (hrs : fn.results = rs.toArray) (hn : args.length ≤ N)
    (h : (∀ d ∈ args, d.Ok) → ∀ base S0 w0, AWp E base S0 w0 N c (entry args) fun e σ => (e = .ret ∨ e = .normal) ∧ RetOk E σ rs r) : ACalls E.P f args r := by
  refine ⟨⟨fn, hf, hname, by rw [hb]; rfl⟩, fun w S vs hG hS hl hr => ?_⟩
  refine calls_of_wp hf hb ?_
  rw [hN]
  have hok : ∀ d ∈ args, d.Ok := fun d hd => by
    obtain ⟨i, hi⟩ := List.getElem?_of_mem hd
    exact ⟨w, S, _, hr i d hi⟩
  refine wp_mono (h hok w.heap.size S w _ w ⟨_, entry_RB hG hS hl hr hn⟩) fun e a' w' ⟨σ', ⟨he, hret⟩, bk', hR⟩ => ?_
  have main : a'.defers = [] ∧ ∃ v, (results fn a'.tmps).run E.P w' = .ok v w' ∧ ∃ v', Ending.returned v = .returned v' ∧ Below w.heap.size w w' ∧ RetRel w w' S r v' := by
    refine ⟨hR.defers, ?_⟩
    have hst : ∀ b o, allS w.heap.size S w'.heap.size b o → stayed w w' S none b o := fun b o hs => by
      rcases hs with hs | ⟨h1, h2⟩
      · exact .inl hs
      · exact .inr ⟨h1, h2, by simp⟩
    have hres : ∀ vs : List Value, (rs.mapM (resV a'.tmps)).run E.P w' = .ok vs w' →
        (results fn a'.tmps).run E.P w' = .ok (if h : vs.toArray.size = 1 then vs.toArray[0] else .tuple vs.toArray) w' := by
      intro vs hvs
      have e : results fn a'.tmps = (do let vs ← fn.results.mapM (resV a'.tmps); pure (if h : vs.size = 1 then vs[0] else .tuple vs)) := rfl
      rw [e, hrs, Array.mapM_eq_mapM_toList]
      simp only [Sem.run_bind, Sem.run_map, hvs, Result.andThen_ok, Sem.run_pure]
    unfold RetOk at hret
    split at hret
    · split at hret
      · rename_i x
        obtain ⟨v, h1, h2⟩ := RV_ok hE hR hret
        have h3 := hres [v] (by rw [List.mapM_cons]; simp only [Sem.run_bind, h1, Result.andThen_ok, List.mapM_nil, Sem.run_pure])
        exact ⟨v, h3, v, rfl, hR.below, h2.mono (fun _ _ _ => rfl) hst⟩
      · exact hret.elim
    · rename_i ds _
      obtain ⟨vs, k1, k2, k3, k4⟩ := RVs_ok hE hR rs ds hret.2
      have h3 := hres vs k1
      rw [dif_neg (by simp; omega)] at h3
      refine ⟨_, h3, _, rfl, hR.below, vs.toArray, rfl, by simpa using k2, fun i d hi => ?_⟩
      have := (k4 i d hi).mono (w' := w') (fun _ _ _ => rfl) hst
      have e : vs.toArray.getD i undef = vs.getD i undef := by simp [Array.getD_eq_getD_getElem?, List.getD_eq_getElem?_getD]
      rw [e]; exact this
    · rename_i z es _
      split at hret
      · rename_i t _
        have h3 := hres [a'.tmps.getD t undef] (by simp [resV])
        have own : ∀ (p : Pl), (σ'.get p.1).ownAt p.2 = some (true, z, es) → Hdr w' (bk' p) z.cells.length es.length (a'.tmps.getD t undef) → RetRel w w' S (.own z es) (a'.tmps.getD t undef) := by
          intro p ho hv
          refine ⟨bk' p, hv, fun b hb => ⟨(hR.rng p b hb).1, (hR.rng p b hb).2, (hR.own p true z es ho b hb).mono rfl (fun _ _ _ => rfl) (fun x o hs => ?_)⟩⟩
          rcases hs with hs | ⟨k1, k2, k3⟩
          · exact .inl hs
          · refine .inr ⟨k1, k2, fun hxb => ?_⟩
            have := k3 p hxb
            rw [ho] at this; simp [limOf] at this
        have h0 := hR.slots t
        refine ⟨_, h3, _, rfl, hR.below, ?_⟩
        show RetRel w w' S (.own z es) (a'.tmps.getD t undef)
        split at hret
        · rename_i z' es' hg
          obtain ⟨rfl, rfl⟩ := hret
          rw [hg] at h0
          exact own (t, 0) (by show (σ'.get t).ownAt 0 = _; rw [hg]; rfl) h0
        · rename_i hg
          subst hret
          rw [hg] at h0
          exact ⟨none, .inl ⟨rfl, h0⟩, fun b hb => by cases hb⟩
        · rename_i s hg
          rw [hg] at h0
          split at hret
          · rename_i z' es' hgs
            obtain ⟨rfl, rfl⟩ := hret
            have ho : (σ'.get s).ownAt 0 = some (true, z', es') := by rw [hgs]; rfl
            exact own (s, 0) ho (h0 true z' es' ho)
          · exact hret.elim
        · exact hret.elim
      · exact hret.elim
  rcases he with rfl | rfl
  · exact main
  · exact main

theorem AWp.fact [Amb] {s : Nat} {d : D} {c : Code} {Q : Exit → St → Prop} (hs : σ.get s = .val d) (h : d.Ok → AWp E base S0 w0 N c σ Q) : AWp E base S0 w0 N c σ Q := by
  intro a w hR
  obtain ⟨bk, hb⟩ := id hR
  have h0 := hb.slots s
  rw [hs] at h0
  exact h ⟨_, _, _, h0⟩ a w hR
end
end Ab

namespace Ab
open Go Go.RowKit
/-- What comes after an operation: no more than a name until it is met. -/
def later [Amb] (E : Env) (N : Nat) (ops : Array Oper) (os : List Oper) (K : St → Prop) : St → Prop := fun σ' => walk E N ops os σ' K
def done (V : List Nat) (N : Nat) (K : St → Prop) : St → Prop := fun σ' => K (clean V (settle V N σ' V))
def memN (s : Nat) : List Nat → Bool
  | [] => false
  | v :: r => s == v || memN s r
theorem memN_eq (s : Nat) (V : List Nat) : memN s V = V.contains s := by
  induction V with
  | nil => rfl
  | cons v r ih => simp only [memN, ih, List.contains_cons]
def hasRef : T → Nat → Bool
  | .alias p, d => p.1 == d
  | .ptr s _, d => s == d
  | .optr p _ _, d => p.1 == d
  | .opt _ t, d => hasRef t d
  | _, _ => false
theorem hasRef_eq (t : T) (d : Nat) : hasRef t d = t.refs.contains d := by
  induction t with
  | opt gs t ih => simpa [hasRef, T.refs] using ih
  | alias p => simp only [hasRef, T.refs, List.contains_cons, List.contains_nil, Bool.or_false]; exact BEq.comm
  | ptr p => simp only [hasRef, T.refs, List.contains_cons, List.contains_nil, Bool.or_false]; exact BEq.comm
  | optr p => simp only [hasRef, T.refs, List.contains_cons, List.contains_nil, Bool.or_false]; exact BEq.comm
  | _ => simp [hasRef, T.refs]
def stl2 (N : Nat) (σ : St) (x s : Nat) : T → St
  | .own m z es => bif decide (x < N) then (x, .own m z es) :: (s, leftT m z es) :: dropR x σ else σ
  | _ => σ
def stl (V : List Nat) (N : Nat) (σ : St) (x : Nat) : T → St
  | .alias (s, 0) => bif memN s V then σ else stl2 N σ x s (σ.get s)
  | _ => σ
section
variable {base : Nat} {S0 : Nat → Nat → Prop} {w0 : World} {N : Nat} {E : Env} {σ : St}

/-- A region ahead of more code: what follows stands behind a name. -/
theorem AWp.rseq [Amb] (hE : E.Ok) (V : List Nat) {id : Nat} {ops : Array Oper} {y : Code} {Q : Exit → St → Prop}
    (h : ∀ K : St → Prop, (∀ σ', AWp E base S0 w0 N y σ' Q → K σ') → walk E N ops ops.toList σ (done V N K)) : AWp E base S0 w0 N (.seq (.region id ops false) y) σ Q :=
  AWp.seq (AWp.region hE V (h _ fun _ h => h))

theorem AWp.rend [Amb] (hE : E.Ok) (V : List Nat) {id : Nat} {ops : Array Oper} {Q : Exit → St → Prop}
    (h : ∀ K : St → Prop, (∀ σ', Q .normal σ' → K σ') → walk E N ops ops.toList σ (done V N K)) : AWp E base S0 w0 N (.region id ops false) σ Q :=
  AWp.region hE V (h _ fun _ h => h)

/-- Whatever follows is met through what is known of it. -/
theorem AWp.imp [Amb] {c : Code} {Q : Exit → St → Prop} {K : St → Prop} (hK : ∀ σ', AWp E base S0 w0 N c σ' Q → K σ') (h : AWp E base S0 w0 N c σ Q) : K σ := hK σ h

@[simp] theorem walk_cons [Amb] {ops : Array Oper} {o : Oper} {os : List Oper} {K : St → Prop} : walk E N ops (o :: os) σ K = stp E N ops o σ (later E N ops os K) := rfl
@[simp] theorem walk_nil [Amb] {ops : Array Oper} {K : St → Prop} : walk E N ops [] σ K = K σ := rfl
@[simp] theorem later_eq [Amb] {ops : Array Oper} {os : List Oper} {K : St → Prop} : later E N ops os K σ = walk E N ops os σ K := rfl
@[simp] theorem done_eq {V : List Nat} {K : St → Prop} : done V N K σ = K (clean V (settle V N σ V)) := rfl
@[simp] theorem norefs_nil {d : Nat} : norefs [] d = true := rfl
@[simp] theorem norefs_cons [Amb] {d k : Nat} {t : T} : norefs ((k, t) :: σ) d = ((k == d || !(hasRef t d)) && norefs σ d) := by simp only [hasRef_eq]; rfl
@[simp] theorem noplace_nil {q : Pl} : noplace [] q = true := rfl
@[simp] theorem noplace_cons {q : Pl} {k : Nat} {t : T} : noplace ((k, t) :: σ) q = (!(t.hasPl q) && noplace σ q) := rfl
@[simp] theorem dropR_nil {x : Nat} : dropR x [] = [] := rfl
@[simp] theorem dropR_cons {x k : Nat} {t : T} : dropR x ((k, t) :: σ) = (k, dropT x t) :: dropR x σ := rfl
@[simp] theorem settle_nil {V : List Nat} : settle V N σ [] = σ := rfl
@[simp] theorem settle_cons [Amb] {V : List Nat} {x : Nat} {r : List Nat} : settle V N σ (x :: r) = settle V N (stl V N σ x (σ.get x)) r := by
  rw [settle]
  cases hx : σ.get x with
  | alias p =>
    obtain ⟨s, i⟩ := p
    cases i with
    | succ i => rfl
    | zero =>
      simp only [stl, memN_eq]
      cases hc : V.contains s with
      | true => simp
      | false =>
        simp only [Bool.false_eq_true, if_false, cond_false]
        cases hs : σ.get s with
        | own m z es =>
          simp only [stl2]
          by_cases hb : x < N
          · simp [hb]
          · simp [hb]
        | _ => rfl
  | _ => rfl

theorem min_i64 : IntKind.i64.min = -9223372036854775808 := by decide
theorem max_i64 : IntKind.i64.max = 9223372036854775807 := by decide
theorem min_u8 : IntKind.u8.min = 0 := by decide
theorem max_u8 : IntKind.u8.max = 255 := by decide
theorem min_u16 : IntKind.u16.min = 0 := by decide
theorem max_u16 : IntKind.u16.max = 65535 := by decide
theorem wrap_i64 {n : Int} (h1 : -9223372036854775808 ≤ n) (h2 : n ≤ 9223372036854775807) : IntKind.i64.wrap n = n := by rw [IntKind.wrap_i64]; omega
@[simp] theorem cells_agg {l : List D} : D.cells (.agg l) = l := rfl
@[simp] theorem cells_int {k : IntKind} {n : Int} : D.cells (.int k n) = [.int k n] := rfl
@[simp] theorem cells_bool {b : Bool} : D.cells (.bool b) = [.bool b] := rfl
@[simp] theorem cells_str {b : List UInt8} : D.cells (.str b) = [.str b] := rfl
@[simp] theorem cells_slice {z : D} {es : List D} : D.cells (.slice z es) = [.slice z es] := rfl
@[simp] theorem cells_fn {f : Nat} {c : List D} : D.cells (.fn f c) = [.fn f c] := rfl
@[simp] theorem cells_ref {c : List D} : D.cells (.ref c) = [.ref c] := rfl
@[simp] theorem cells_lit {v : Value} : D.cells (.lit v) = [.lit v] := rfl
theorem thenN {K : St → Prop} {Q : Exit → St → Prop} (h : K σ) : thenQ K Q .normal σ := h
theorem thenX {K : St → Prop} {Q : Exit → St → Prop} {i : Nat} (h : Q (.exit i) σ) : thenQ K Q (.exit i) σ := h
theorem thenR {K : St → Prop} {Q : Exit → St → Prop} (h : Q .ret σ) : thenQ K Q .ret σ := h
theorem blockN {i : Nat} {Q : Exit → St → Prop} (h : Q .normal σ) : blockQ i Q .normal σ := h
theorem blockR {i : Nat} {Q : Exit → St → Prop} (h : Q .ret σ) : blockQ i Q .ret σ := h
theorem blockX {i : Nat} {Q : Exit → St → Prop} (h : Q .normal σ) : blockQ i Q (.exit i) σ := by simpa [blockQ] using h
theorem blockM {i j : Nat} {Q : Exit → St → Prop} (hij : (j == i) = false) (h : Q (.exit j) σ) : blockQ i Q (.exit j) σ := by
  have : ¬ j = i := by simpa using hij
  simpa [blockQ, this] using h
theorem at_indexG {α : Type} {l : List α} {k : Nat} (h : k < l.length) : ∃ c, l[k]? = some c ∧ l[k]'h = c ∧ l.drop k = c :: l.drop (k + 1) := ⟨l[k], List.getElem?_eq_getElem h, rfl, List.drop_eq_getElem_cons h⟩
/-- A loop over a list: what is left to do is told by 'F', what is known besides by 'Inv'. -/
theorem AWp.range [Amb] {α β γ : Type} {l : List α} {F : β → List α → γ} {tot : γ} (Inv : Nat → β → Prop) (S : Nat → β → St) (b₀ : β) {c : Code} {Q : Exit → St → Prop} (h0 : Weak σ (S 0 b₀)) (hF : F b₀ l = tot) (hi : Inv 0 b₀)
    (hr : ∀ k b, k ≤ l.length → F b (l.drop k) = tot → Inv k b → AWp E base S0 w0 N c (S k b) (thenQ (fun σ' => ∃ b', k < l.length ∧ F b' (l.drop (k + 1)) = tot ∧ Inv (k + 1) b' ∧ Weak σ' (S (k + 1) b')) Q)) : AWp E base S0 w0 N (.loop c) σ Q :=
  AWp.loop (ι := { x : Nat × β // x.1 ≤ l.length ∧ F x.2 (l.drop x.1) = tot ∧ Inv x.1 x.2 }) (fun x => S x.1.1 x.1.2) (fun x => l.length - x.1.1) ⟨(0, b₀), Nat.zero_le _, hF, hi⟩ h0
    fun ⟨(k, b), hk, hf, hiv⟩ => (hr k b hk hf hiv).mono fun e σ' h => by
      cases e with
      | normal =>
        obtain ⟨b', h1, h2, h3, h4⟩ := h
        exact ⟨⟨(k + 1, b'), h1, h2, h3⟩, h4, by simp only; omega⟩
      | _ => exact h
theorem Weak.nil {σ : St} : Weak σ [] := by simp [Weak, St.get, TW]
end
section
variable {V : List Nat} {N : Nat} {σ : St} {x s d i j : Nat} {m : Bool} {z e : D} {es ds : List D} {cs : List C} {p : Pl} {gs : List Bool} {t : T}
@[simp] theorem get_nil {n : Nat} : St.get [] n = .junk := rfl
@[simp] theorem get_at {k n : Nat} {r : St} : St.get ((k, t) :: r) n = if k = n then t else St.get r n := rfl
@[simp] theorem stl_junk : stl V N σ x .junk = σ := rfl
@[simp] theorem stl_nils : stl V N σ x .nils = σ := rfl
@[simp] theorem stl_val : stl V N σ x (.val e) = σ := rfl
@[simp] theorem stl_opt : stl V N σ x (.opt gs t) = σ := rfl
@[simp] theorem stl_box : stl V N σ x (.box cs) = σ := rfl
@[simp] theorem stl_own : stl V N σ x (.own m z es) = σ := rfl
@[simp] theorem stl_lent {u : Value} : stl V N σ x (.lent u m z es) = σ := rfl
@[simp] theorem stl2_lent {u : Value} : stl2 N σ x s (.lent u m z es) = σ := rfl
@[simp] theorem hasRef_lent {u : Value} : hasRef (.lent u m z es) d = false := rfl
@[simp] theorem stl_tup : stl V N σ x (.tup ds) = σ := rfl
@[simp] theorem stl_ptr : stl V N σ x (.ptr s i) = σ := rfl
@[simp] theorem stl_optr : stl V N σ x (.optr p i j) = σ := rfl
@[simp] theorem stl_alias : stl V N σ x (.alias (s, 0)) = bif memN s V then σ else stl2 N σ x s (σ.get s) := rfl
@[simp] theorem stl_alias1 : stl V N σ x (.alias (s, i + 1)) = σ := rfl
@[simp] theorem stl2_junk : stl2 N σ x s .junk = σ := rfl
@[simp] theorem stl2_nils : stl2 N σ x s .nils = σ := rfl
@[simp] theorem stl2_val : stl2 N σ x s (.val e) = σ := rfl
@[simp] theorem stl2_opt : stl2 N σ x s (.opt gs t) = σ := rfl
@[simp] theorem stl2_box : stl2 N σ x s (.box cs) = σ := rfl
@[simp] theorem stl2_own : stl2 N σ x s (.own m z es) = bif decide (x < N) then (x, .own m z es) :: (s, leftT m z es) :: dropR x σ else σ := rfl
@[simp] theorem stl2_tup : stl2 N σ x s (.tup ds) = σ := rfl
@[simp] theorem stl2_ptr : stl2 N σ x s (.ptr d i) = σ := rfl
@[simp] theorem stl2_alias : stl2 N σ x s (.alias p) = σ := rfl
@[simp] theorem hasRef_junk : hasRef .junk d = false := rfl
@[simp] theorem hasRef_nils : hasRef .nils d = false := rfl
@[simp] theorem hasRef_val : hasRef (.val e) d = false := rfl
@[simp] theorem hasRef_opt : hasRef (.opt gs t) d = hasRef t d := rfl
@[simp] theorem hasRef_box : hasRef (.box cs) d = false := rfl
@[simp] theorem hasRef_own : hasRef (.own m z es) d = false := rfl
@[simp] theorem hasRef_tup : hasRef (.tup ds) d = false := rfl
@[simp] theorem hasRef_ptr : hasRef (.ptr s i) d = (s == d) := rfl
@[simp] theorem hasRef_optr : hasRef (.optr p i j) d = (p.1 == d) := rfl
@[simp] theorem hasRef_alias : hasRef (.alias p) d = (p.1 == d) := rfl
end
attribute [simp] T.hasPl movS nilS isSl nilNil Env.bytesOf bytesD selfA finA callK dropT stp guardL valOp rd rdT constT fin optw frzS fldA clean memN T.stays leftT min_i64 max_i64 min_u8 max_u8 min_u16 max_u16 binT binI binS unT eqL eqD okTag eqOkL idxA newO T.refs boxOf ldT dat T.box? putC Env.szOf Key.agg lenT entry entryFrom T.noOpt minT maxT C.dat C.mut C.frz T.frz T.ownAt C.own? T.setOwn D.setc fillD Env.place Env.known subL optI slcT cvtT partT fldV idxV rdDs buildHints Env.hints Env.elemZ Env.zd TI.zd sliceParts sealS isU8
end Ab

namespace Ab
open Go Go.RowKit

/-- A datum of one cell that one value alone stands for. -/
def D.sure1 : D → Option Value
  | .int k n => if k.min ≤ n ∧ n ≤ k.max then some (.int k n) else none
  | .bool b => some (.bool b)
  | .str s => if s.length ≤ maxLen then some (.string ⟨s.toArray⟩) else none
  | _ => none
def sureC : List D → Option (List Value)
  | [] => some []
  | d :: ds => match d.sure1, sureC ds with | some v, some vs => some (v :: vs) | _, _ => none
/-- A datum that one value alone stands for. -/
def D.sure : D → Option Value
  | .int k n => if k.min ≤ n ∧ n ≤ k.max then some (.int k n) else none
  | .bool b => some (.bool b)
  | .str s => if s.length ≤ maxLen then some (.string ⟨s.toArray⟩) else none
  | .agg cs => (sureC cs).map fun l => .agg l.toArray
  | _ => none

theorem D.sure1_flat {d : D} {v : Value} (h : d.sure1 = some v) : d.flat = true := by cases d <;> first | rfl | (simp [D.sure1] at h)
theorem D.sure1_rep {d : D} {v : Value} (h : d.sure1 = some v) (w : World) (S : Nat → Nat → Prop) : Rep w S d v := by
  cases d <;> simp only [D.sure1, reduceCtorEq, Option.some.injEq] at h
  · split at h
    · simp at h; subst h; exact .int _ _ (by assumption)
    · cases h
  · subst h; exact .bool _
  · split at h
    · simp at h; subst h; exact .str _ (by assumption)
    · cases h
theorem D.sure1_eq {d : D} {v u : Value} (h : d.sure1 = some v) {w : World} {S : Nat → Nat → Prop} (hr : Rep w S d u) : u = v := by
  cases hr <;> simp only [D.sure1, reduceCtorEq, Option.some.injEq] at h
  · split at h
    · simpa using h
    · rename_i h1 h2; exact absurd h1 h2
  · exact h
  · split at h
    · simpa using h
    · rename_i h1 h2; exact absurd h1 h2
theorem sureC_spec {w : World} {S : Nat → Nat → Prop} : ∀ {ds : List D} {l : List Value}, sureC ds = some l → l.length = ds.length ∧ (∀ d ∈ ds, d.flat = true) ∧ (∀ i d, ds[i]? = some d → Rep w S d (l.toArray.getD i undef)) ∧
    ∀ us : Array Value, us.size = ds.length → (∀ i d, ds[i]? = some d → Rep w S d (us.getD i undef)) → us.toList = l
  | [], l, h => by
    simp only [sureC, Option.some.injEq] at h; subst h
    refine ⟨rfl, by simp, fun i d hi => by simp at hi, fun us hs _ => ?_⟩
    simpa using hs
  | d :: ds, l, h => by
    simp only [sureC] at h
    split at h
    · rename_i v vs hv hvs
      simp only [Option.some.injEq] at h; subst h
      obtain ⟨i1, i0, i2, i3⟩ := sureC_spec (w := w) (S := S) hvs
      refine ⟨by simp [i1], fun d' hd' => ?_, fun i d' hi => ?_, fun us hs hr => ?_⟩
      · rcases List.mem_cons.1 hd' with rfl | hd'
        · exact D.sure1_flat hv
        · exact i0 d' hd'
      · match i, hi with
        | 0, hi => simp at hi; subst hi; simpa using D.sure1_rep hv w S
        | i + 1, hi => have := i2 i d' (by simpa using hi); simpa using this
      · obtain ⟨us⟩ := us
        match us, hs with
        | u :: us, hs =>
          have h0 := D.sure1_eq hv (hr 0 d rfl)
          have h1 := i3 us.toArray (by simpa using hs) (fun i d' hi => by have := hr (i + 1) d' (by simpa using hi); simpa using this)
          simp at h0 h1
          simp [h0, h1]
    · cases h

def sureL : List D → Option (List Value)
  | [] => some []
  | d :: ds => match d.sure, sureL ds with | some v, some vs => some (v :: vs) | _, _ => none

def RetT.sure : RetT → Option Value
  | .d x => x.sure
  | .tup ds => (sureL ds).map fun l => .tuple l.toArray
  | .own _ _ => none

theorem D.sure_rep {d : D} {v : Value} (h : d.sure = some v) (w : World) (S : Nat → Nat → Prop) : Rep w S d v := by
  cases d with
  | int k n => exact D.sure1_rep (d := .int k n) h w S
  | bool b => exact D.sure1_rep (d := .bool b) h w S
  | str s => exact D.sure1_rep (d := .str s) h w S
  | agg cs =>
    simp only [D.sure, Option.map_eq_some_iff] at h
    obtain ⟨l, h1, rfl⟩ := h
    obtain ⟨i1, i0, i2, _⟩ := sureC_spec (w := w) (S := S) h1
    exact .agg _ _ (by simp [i1]) i0 i2
  | _ => simp [D.sure] at h

theorem D.sure_eq {d : D} {v u : Value} (h : d.sure = some v) {w : World} {S : Nat → Nat → Prop} (hr : Rep w S d u) : u = v := by
  cases d with
  | int k n => exact D.sure1_eq (d := .int k n) h hr
  | bool b => exact D.sure1_eq (d := .bool b) h hr
  | str s => exact D.sure1_eq (d := .str s) h hr
  | agg cs =>
    simp only [D.sure, Option.map_eq_some_iff] at h
    obtain ⟨l, h1, rfl⟩ := h
    cases hr with
    | agg _ vs hl hf hh =>
      have := (sureC_spec (w := w) (S := S) h1).2.2.2 vs hl hh
      rw [← this]
  | _ => simp [D.sure] at h

theorem sureL_spec [Amb] {w : World} {S : Nat → Nat → Prop} : ∀ {ds : List D} {l : List Value}, sureL ds = some l → l.length = ds.length ∧ (∀ i d, ds[i]? = some d → Rep w S d (l.toArray.getD i undef)) ∧
    ∀ us : Array Value, us.size = ds.length → (∀ i d, ds[i]? = some d → Rep w S d (us.getD i undef)) → us.toList = l
  | [], l, h => by
    simp only [sureL, Option.some.injEq] at h; subst h
    refine ⟨rfl, fun i d hi => by simp at hi, fun us hs _ => ?_⟩
    simpa using hs
  | d :: ds, l, h => by
    simp only [sureL] at h
    split at h
    · rename_i v vs hv hvs
      simp only [Option.some.injEq] at h; subst h
      obtain ⟨i1, i2, i3⟩ := sureL_spec (w := w) (S := S) hvs
      refine ⟨by simp [i1], fun i d' hi => ?_, fun us hs hr => ?_⟩
      · match i, hi with
        | 0, hi => simp at hi; subst hi; simpa using D.sure_rep hv w S
        | i + 1, hi => have := i2 i d' (by simpa using hi); simpa using this
      · obtain ⟨us⟩ := us
        match us, hs with
        | u :: us, hs =>
          have h0 := D.sure_eq hv (hr 0 d rfl)
          have h1 := i3 us.toArray (by simpa using hs) (fun i d' hi => by have := hr (i + 1) d' (by simpa using hi); simpa using this)
          simp at h0 h1
          simp [h0, h1]
    · cases h

theorem RetT.sure_eq [Amb] {r : RetT} {v u : Value} (h : r.sure = some v) {w w' : World} {S : Nat → Nat → Prop} (hr : RetRel w w' S r u) : u = v := by
  cases r with
  | d x => exact D.sure_eq h hr
  | own z es => cases h
  | tup ds =>
    simp only [RetT.sure, Option.map_eq_some_iff] at h
    obtain ⟨l, h1, rfl⟩ := h
    obtain ⟨arr, rfl, h2, h3⟩ := hr
    have := (sureL_spec (w := w') (S := stayed w w' S none) h1).2.2 arr h2 h3
    rw [← this]

/-- The content of the slot that takes a sure answer. -/
def RetT.cont : RetT → T
  | .d x => .val x
  | .tup ds => .tup ds
  | .own _ _ => .junk

def callQ (N : Nat) (dst : Option Nat) (gs : List Bool) (σ : St) (K : St → Prop) (r : RetT) : Prop := r.sure.isSome = true ∧ fin N dst gs σ r.cont K
def stpQ [Amb] (E : Env) (N : Nat) (ops : Array Oper) (o : Oper) (σ : St) (K : St → Prop) : Prop :=
  match guardL ops σ o with
  | none => False
  | some gs =>
    match o.op with
    | .call { callee := .value f, args := args, argTypes := ats } =>
      match (rd σ.get gs f).2, rdDs σ.get gs (E.hints ats.toList args.toList) with
      | .val (.fn fid caps), some (c, l, ds) =>
        (gs.all id = true → (rd σ.get gs f).1 ∧ c) ∧
        meet (gs.all id = true) E.P fid (ds ++ caps) (callQ N o.dst gs (frzS σ l) K)
      | _, _ => False
    | op =>
      match valOp E σ.get gs op with
      | some (c, l, t) => (gs.all id = true → c) ∧ fin N o.dst gs (frzS σ l) t K
      | none => False

def walkQ [Amb] (E : Env) (N : Nat) (ops : Array Oper) : List Oper → St → (St → Prop) → Prop
  | [], σ, K => K σ
  | o :: os, σ, K => stpQ E N ops o σ fun σ' => walkQ E N ops os σ' K
def laterQ [Amb] (E : Env) (N : Nat) (ops : Array Oper) (os : List Oper) (K : St → Prop) : St → Prop := fun σ' => walkQ E N ops os σ' K

theorem wpQuiet_mono' [Amb] {P : Program} {ops : Array Oper} {C : World → Prop} {Q Q' : Act → Prop} (h : ∀ a, Q a → Q' a) : ∀ (l : List Oper) {a : Act}, wpQuiet P ops C Q l a → wpQuiet P ops C Q' l a
  | [], a, hh => h a hh
  | o :: l, a, hh => by
    simp only [wpQuiet] at hh ⊢
    split at hh
    · rename_i hw; rw [if_pos hw]; exact Oper.quiet_mono (fun a' h1 => wpQuiet_mono' h l h1) hh
    · rename_i hw; rw [if_neg hw]; exact wpQuiet_mono' h l hh

section
variable {base : Nat} {S0 : Nat → Nat → Prop} {w0 : World} {N : Nat} {a : Act} {w : World} {bk : Pl → Option Nat} {E : Env} {P : Program} {σ : St}

/-- The world grows: the frame stands. -/
theorem RB.world [Amb] {g : Nat → T} (h : RB base S0 w0 N g a w bk) {w' : World} (hw : Below w.heap.size w w') : RB base S0 w0 N g a w' bk := by
  have hS : ∀ b o, stab base S0 g bk w.heap.size b o → stab base S0 g bk w'.heap.size b o := fun b o hs => by
    rcases hs with hs | ⟨h1, h2, h3⟩
    · exact .inl hs
    · exact .inr ⟨h1, Nat.lt_of_lt_of_le h2 hw.size, h3⟩
  exact h.coreG (fun _ => False) h.defers h.size (fun _ _ => rfl) (fun _ _ => rfl) (hw.mono h.le) (fun p b hb => ⟨(h.rng p b hb).1, Nat.lt_of_lt_of_le (h.rng p b hb).2 hw.size⟩) h.inj
      (fun b o hs => below_cell hw (stab_lt h hs)) hS (fun _ _ => rfl) (fun p b _ hb => hw.block b (h.rng p b hb).2) (fun _ _ _ _ hh => hh.elim) (fun _ hh => hh.elim) (fun _ hh => hh.elim) (fun _ hh => hh.elim)

def StepQ [Amb] (P : Program) (base : Nat) (S0 : Nat → Nat → Prop) (w0 : World) (N : Nat) (ops : Array Oper) (o : Oper) (K : St → Prop) (a : Act) (w : World) : Prop :=
  if Region.wanted o (yielded ops a.tmps) then o.quiet P a (Below w.heap.size w) (fun a' => Kc base S0 w0 N K a' w) else Kc base S0 w0 N K (a.put o.dst undef) w

theorem stepQ_val [Amb] (hE : E.Ok) (h : RB base S0 w0 N σ.get a w bk) {ops : Array Oper} {o : Oper} {gs : List Bool} (hg : guardL ops σ o = some gs) {c : Prop} {l : List Nat} {t : T} {K : St → Prop}
    (hv : valOp E σ.get gs o.op = some (c, l, t)) (hc : gs.all id = true → c) (hK : fin N o.dst gs (frzS σ l) t K) : StepQ E.P base S0 w0 N ops o K a w := by
  unfold StepQ
  rw [guard_ok h hg]
  have hf : RB base S0 w0 N (frzS σ l).get a w bk := by rw [frzS_get]; exact h.frzs l
  have hp := valOp_plain hv
  cases hga : gs.all id with
  | true =>
    rw [if_pos rfl]
    obtain ⟨v, h1, h2, _⟩ := valOp_okB hE h hga hv (hc hga)
    refine ⟨v, fun w' hw' => ?_, fin_val hf (Below.refl _ _) hp (fun d => RT.optw (fun _ => ?_) (fun hh => by rw [hga] at hh; cases hh)) hK⟩
    · unfold Oper.quietAt
      rw [h1 w' (fun _ => hw')]
      exact ⟨rfl, rfl⟩
    · rw [← frzS_get] at h2
      exact RT.put hf (Below.refl _ _) (optw_plain hp) hp h2
  | false =>
    rw [if_neg (by simp)]
    exact fin_skip hf hp hga hK

theorem stepQ_call [Amb] (h : RB base S0 w0 N σ.get a w bk) {ops : Array Oper} {o : Oper} {gs : List Bool} (hg : guardL ops σ o = some gs) {f : Operand} {args : Array Operand} {ats : Array TypeId} (ho : o.op = .call { callee := .value f, args := args, argTypes := ats })
    {fid : FuncId} {caps : List D} (hf : (rd σ.get gs f).2 = .val (.fn fid caps)) {c : Prop} {l : List Nat} {ds : List D} (hds : rdDs σ.get gs (E.hints ats.toList args.toList) = some (c, l, ds)) (hc : gs.all id = true → (rd σ.get gs f).1 ∧ c)
    {r : RetT} {K : St → Prop} (hsure : r.sure.isSome = true) (hK : fin N o.dst gs (frzS σ l) r.cont K) (hr : gs.all id = true → ACalls E.P fid (ds ++ caps) r) : StepQ E.P base S0 w0 N ops o K a w := by
  unfold StepQ
  rw [guard_ok h hg]
  have hfz : RB base S0 w0 N (frzS σ l).get a w bk := by rw [frzS_get]; exact h.frzs l
  have hpl : r.cont.plain = true := by cases r <;> rfl
  cases hga : gs.all id with
  | false =>
    rw [if_neg (by simp)]
    exact fin_skip hfz hpl hga hK
  | true =>
    rw [if_pos rfl]
    obtain ⟨hc1, hc2⟩ := hc hga
    obtain ⟨⟨fn, fn1, fn2, fn3⟩, hcall⟩ := hr hga
    obtain ⟨v, hv⟩ := Option.isSome_iff_exists.1 hsure
    refine ⟨v, fun w' hw' => ?_, fin_val hfz (Below.refl _ _) hpl (fun d => RT.optw (fun _ => ?_) (fun hh => by rw [hga] at hh; cases hh)) hK⟩
    · have h' := h.world hw'
      have hfz' : RB base S0 w0 N (frzS σ l).get a w' bk := by rw [frzS_get]; exact h'.frzs l
      obtain ⟨e1, e2⟩ := rdDs_ok h' hga _ hds hc2 l (fun s hs => hs)
      obtain ⟨r1, _⟩ := rd_ok h' hga f hc1
      rw [hf] at r1
      have hf2 := frzs_slots h' l rfl r1
      generalize hvf : a.eval f = vf at r1 hf2
      rw [← frzS_get] at e2 hf2
      cases hf2 with
      | fn _ _ vcs hl hcap =>
        have hlen : ds.length = args.size := by
          rw [e1]
          have := congrArg List.length (hints_snd E ats.toList args.toList)
          simpa using this
        have hargs := hcall w' (stab base S0 (frzS σ l).get bk w'.heap.size) (args.map a.eval ++ vcs) hfz'.amb' (fun b o hs => stab_lt hfz' hs) (by simp [hlen, hl]) (fun i d hi => by
          by_cases hid : i < ds.length
          · rw [List.getElem?_append_left hid] at hi
            have hx : ∃ x, (E.hints ats.toList args.toList)[i]? = some x := ⟨_, List.getElem?_eq_getElem (by rw [← e1]; exact hid)⟩
            obtain ⟨x, hx⟩ := hx
            have h3 := e2 i d x hi hx
            have h4 : args.toList[i]? = some x.2 := by
              rw [← hints_snd E ats.toList args.toList, List.getElem?_map, hx]; rfl
            have h5 : (args.map a.eval ++ vcs).getD i undef = a.eval x.2 := by
              rw [Array.getD_eq_getD_getElem?, Array.getElem?_append_left (by simp; omega), Array.getElem?_map, ← Array.getElem?_toList, h4]; rfl
            rw [h5]; exact h3
          · rw [List.getElem?_append_right (by omega)] at hi
            have h3 := hcap _ d hi
            have h5 : (args.map a.eval ++ vcs).getD i undef = vcs.getD (i - ds.length) undef := by
              rw [Array.getD_eq_getD_getElem?, Array.getElem?_append_right (by simp; omega), Array.getD_eq_getD_getElem?]; simp [hlen]
            rw [h5]; exact h3)
        have hrun : (execOp a.eval o).run E.P w' = .ok (.enter fid (args.map a.eval ++ vcs)) w' := by
          have hb : fn.body ≠ none := by intro hbb; rw [hbb] at fn3; cases fn3
          have hn : fn.name ≠ "runtime.NumGoroutine" := by simpa using fn2
          simp [execOp, ho, resolve, hvf, Deferred.ofValue, invoke, callFunc, fn1, hn, hb]
        unfold Oper.quietAt
        rw [hrun]
        refine ⟨rfl, hargs.mono fun e w'' ⟨v', he, hw'', hrel⟩ => ?_⟩
        subst he
        have := RetT.sure_eq hv hrel
        subst this
        exact ⟨rfl, hw'.trans (hw''.mono hw'.size)⟩
    · cases r with
      | d x => exact D.sure_rep hv w _
      | own z es => cases hv
      | tup ds' =>
        simp only [RetT.sure, Option.map_eq_some_iff] at hv
        obtain ⟨vl, h1, rfl⟩ := hv
        obtain ⟨k1, k2, _⟩ := sureL_spec (w := w) (S := stab base S0 (upd (frzS σ l).get d (optw gs (RetT.cont (.tup ds')))) (clr bk d) w.heap.size) h1
        exact ⟨vl.toArray, rfl, by simpa using k1, k2⟩

theorem stpQ_ok [Amb] (hE : E.Ok) (h : RB base S0 w0 N σ.get a w bk) {ops : Array Oper} {o : Oper} {K : St → Prop} (hs : stpQ E N ops o σ K) : StepQ E.P base S0 w0 N ops o K a w := by
  unfold stpQ at hs
  split at hs
  · exact hs.elim
  rename_i gs hg
  split at hs
  · rename_i f args ats ho
    split at hs
    · rename_i fid caps c l ds hf hds
      obtain ⟨h1, r, h2, h3, h4⟩ := hs
      exact stepQ_call h hg ho hf hds h1 h3 h4 h2
    · exact hs.elim
  · split at hs
    · rename_i c l t hv
      exact stepQ_val hE h hg hv hs.1 hs.2
    · exact hs.elim

theorem walkQ_ok [Amb] (hE : E.Ok) {ops : Array Oper} {K : St → Prop} : ∀ (l : List Oper) {σ : St} {a : Act} {w : World}, R base S0 w0 N σ.get a w → walkQ E N ops l σ K → wpQuiet E.P ops (Below w.heap.size w) (fun a' => Kc base S0 w0 N K a' w) l a
  | [], σ, a, w, h, hs => ⟨σ, hs, h⟩
  | o :: l, σ, a, w, ⟨bk, h⟩, hs => by
    refine wpQuiet_step fun K' hK' => ?_
    have hst := stpQ_ok hE h (K := fun σ' => walkQ E N ops l σ' K) hs
    unfold StepQ at hst
    split at hst
    · rename_i hw
      rw [if_pos hw]
      exact Oper.quiet_mono (fun a' ⟨σ', h1, h2⟩ => hK' a' (walkQ_ok hE l h2 h1)) hst
    · rename_i hw
      rw [if_neg hw]
      obtain ⟨σ', h1, h2⟩ := hst
      exact hK' _ (walkQ_ok hE l h2 h1)

/-- A region that draws its order, whose operations leave what was there alone: one walk in the order of the text. -/
theorem AWp.regionQ [Amb] (hE : E.Ok) (hm : E.P.follows .mixedOrders = true) (V : List Nat) {id : Nat} {ops : Array Oper} {Q : Exit → St → Prop} (hB : Region.lexB .any ops = true) (h : walkQ E N ops ops.toList σ fun σ' => Q .normal (clean V (settle V N σ' V))) :
    AWp E base S0 w0 N (.region id ops true) σ Q := by
  intro a w ⟨bk, hR⟩
  have hd : Below w.heap.size w { w with drawn := w.drawn + 1 } := ⟨rfl, rfl, rfl, Nat.le_refl _, fun _ _ => rfl⟩
  have hR' : R base S0 w0 N σ.get a { w with drawn := w.drawn + 1 } := ⟨bk, hR.world hd⟩
  refine wp_region_quiet (C := Below w.heap.size { w with drawn := w.drawn + 1 }) hm hB (Below.refl _ _) ?_
  have := walkQ_ok hE ops.toList hR' h
  refine wpQuiet_mono' (fun a' ⟨σ', h1, h2⟩ w' hw' => ?_) _ this
  obtain ⟨bk', hb⟩ := h2
  exact ⟨_, h1, clean_ok V (settle_ok V V ⟨bk', hb.world hw'⟩)⟩

theorem AWp.rseqQ [Amb] (hE : E.Ok) (hm : E.P.follows .mixedOrders = true) (V : List Nat) {id : Nat} {ops : Array Oper} {y : Code} {Q : Exit → St → Prop} (hB : Region.lexB .any ops = true)
    (h : ∀ K : St → Prop, (∀ σ', AWp E base S0 w0 N y σ' Q → K σ') → walkQ E N ops ops.toList σ (Ab.done V N K)) : AWp E base S0 w0 N (.seq (.region id ops true) y) σ Q :=
  AWp.seq (AWp.regionQ hE hm V hB (h _ fun _ h => h))

@[simp] theorem walkQ_cons [Amb] {ops : Array Oper} {o : Oper} {os : List Oper} {K : St → Prop} : walkQ E N ops (o :: os) σ K = stpQ E N ops o σ (laterQ E N ops os K) := rfl
@[simp] theorem walkQ_nil [Amb] {ops : Array Oper} {K : St → Prop} : walkQ E N ops [] σ K = K σ := rfl
@[simp] theorem laterQ_eq [Amb] {ops : Array Oper} {os : List Oper} {K : St → Prop} : laterQ E N ops os K σ = walkQ E N ops os σ K := rfl

end
attribute [simp] callQ stpQ D.sure D.sure1 sureC sureL RetT.sure RetT.cont
end Ab

/- From the arguments as a row reads them to data. -/
namespace Ab
open Go Go.RowKit

abbrev oldS (w : World) : Nat → Nat → Prop := fun b _ => b < w.heap.size

/-- A reading of type t's cells tells a typed thing 'a', laid out as 'f a'. -/
structure Opens (P : Program) (t : TypeId) {α : Type} (f : α → List D) (ok : α → Prop) : Prop where
  go : ∀ {H : Type} (enc : TypeId × Value → H) (w : World) (fuel : Nat) (cs : List Value) (x : DataW H × List MemPlace), DataW.trod enc P w 0 (fun _ => true) true fuel t cs = some x →
    ∃ a, ok a ∧ (f a).length = cs.length ∧ (∀ c ∈ f a, c.flat = true) ∧ ∀ j c, (f a)[j]? = some c → Rep w (oldS w) c (cs.getD j undef)

structure OpensF (P : Program) (o : Nat) (fs : List Field) {α : Type} (f : α → List D) (ok : α → Prop) : Prop where
  go : ∀ {H : Type} (enc : TypeId × Value → H) (w : World) (fuel : Nat) (cs : List Value),
    (∀ fd ∈ fs, ∃ x, DataW.trod enc P w 0 (fun _ => true) true fuel fd.type ((cs.drop fd.offset).take (P.cellsOf fd.type)) = some x) →
    ∃ a, ok a ∧ (∀ c ∈ f a, c.flat = true) ∧ ∀ j c, (f a)[j]? = some c → Rep w (oldS w) c (cs.getD (o + j) undef)

section
variable {P : Program} {t e : TypeId} {α β : Type} {f : α → List D} {g : β → List D} {ok : α → Prop} {ok' : β → Prop}

theorem single {w : World} {S : Nat → Nat → Prop} {d : D} {v : Value} (h : Rep w S d v) : ∀ j c, [d][j]? = some c → Rep w S c ([v].getD j undef) := by
  intro j c hj
  match j, hj with
  | 0, hj => simp at hj; subst hj; exact h
  | j + 1, hj => simp at hj

theorem Opens.int [Amb] {k : IntKind} (ht : P.underlying t = some (.int k)) : Opens P t (fun n => [.int k n]) (fun n => k.min ≤ n ∧ n ≤ k.max) := by
  refine ⟨fun {H} enc w fuel cs x h => ?_⟩
  obtain ⟨n, rfl, _, hw⟩ := DataW.trod_int ht h
  have hr : k.min ≤ n ∧ n ≤ k.max := by simpa [Lit.wf] using hw
  exact ⟨n, hr, rfl, by simp [D.flat], single (.int k n hr)⟩

theorem Opens.bool [Amb] (ht : P.underlying t = some .bool) : Opens P t (fun b => [.bool b]) (fun _ => True) := by
  refine ⟨fun {H} enc w fuel cs x h => ?_⟩
  obtain ⟨b, rfl, _⟩ := DataW.trod_bool ht h
  exact ⟨b, trivial, rfl, by simp [D.flat], single (.bool b)⟩

theorem Opens.str [Amb] (ht : P.underlying t = some .string) : Opens P t (fun s => [.str s]) (fun s => s.length ≤ maxLen) := by
  refine ⟨fun {H} enc w fuel cs x h => ?_⟩
  obtain ⟨s, rfl, _, hs⟩ := DataW.trod_string ht h
  have e : (⟨s.data.toList.toArray⟩ : ByteArray) = s := rfl
  have hs' : s.data.toList.length ≤ maxLen := hs
  refine ⟨s.data.toList, hs', rfl, by simp [D.flat], single ?_⟩
  have := Rep.str (w := w) (S := oldS w) s.data.toList hs'
  rwa [e] at this

theorem Opens.map (h : Opens P t f ok) (φ : α → β) (hg : ∀ a, g (φ a) = f a) (hok : ∀ a, ok a → ok' (φ a)) : Opens P t g ok' := by
  refine ⟨fun {H} enc w fuel cs x hx => ?_⟩
  obtain ⟨a, h1, h2, h3, h4⟩ := h.go enc w fuel cs x hx
  exact ⟨φ a, hok a h1, by rw [hg]; exact h2, by rw [hg]; exact h3, by rw [hg]; exact h4⟩

theorem Opens.slice [Amb] {m : Nat} (ht : P.underlying t = some (.slice e)) (hm : P.cellsOf e = m) (hpos : 0 < m) (h : Opens P e f ok) (mk : α → D) (hmk : ∀ a, (mk a).cells = f a) (z : D) (hz : z.cells.length = m) :
    Opens P t (fun l : List α => [.slice z (l.map mk)]) (fun l => (∀ a ∈ l, ok a) ∧ l.length ≤ maxLen) := by
  refine ⟨fun {H} enc w fuel cs x hx => ?_⟩
  rcases Go.Deep.open_slice ht hx with ⟨rfl, _⟩ | ⟨a, len, cap, m', n, Dd, Pl, rfl, _, hl, hcap, hmm, _, hel⟩
  · exact ⟨[], by simp, rfl, by simp [D.flat], single (.nil _ _ _ (by simp [maxLen]))⟩
  · simp only [if_true] at hmm
    subst hmm
    rw [hm] at hel
    have each : ∀ i, i < len → ∃ y : α × List Value, ok y.1 ∧ (f y.1).length = y.2.length ∧ (∀ c ∈ f y.1, c.flat = true) ∧ (∀ j c, (f y.1)[j]? = some c → Rep w (oldS w) c (y.2.getD j undef)) ∧ w.cells? 0 (a.add (i * m)) m = some y.2 := fun i hi => by
      obtain ⟨cs', h1, h2⟩ := hel i (by omega)
      obtain ⟨y, k1, k2, k3, k4⟩ := h.go enc w n cs' _ h2
      exact ⟨(y, cs'), k1, k2, k3, k4, h1⟩
    by_cases h0 : len = 0
    · subst h0
      exact ⟨[], by simp, rfl, by simp [D.flat], single (.nil _ _ _ hcap)⟩
    have hspot : a.spot = none := by
      obtain ⟨cs', h1, _⟩ := hel 0 (by omega)
      rw [Nat.zero_mul] at h1
      obtain ⟨_, h3, h4⟩ := World.cells?_some h1
      have h5 := h4 0 hpos
      rw [show (a.add 0).add 0 = a from rfl, List.getElem?_eq_getElem (by omega)] at h5
      unfold World.cell? at h5
      split at h5
      · cases hs : a.spot with
        | none => rfl
        | some s => rw [hs] at h5; simp at h5
      · cases h5
    obtain ⟨b, off, sp⟩ := a
    simp only at hspot; subst hspot
    obtain ⟨y0, _⟩ := each 0 (by omega)
    classical
    have hfun : ∃ F : Nat → α × List Value, ∀ i, i < len → ok (F i).1 ∧ (f (F i).1).length = (F i).2.length ∧ (∀ c ∈ f (F i).1, c.flat = true) ∧ (∀ j c, (f (F i).1)[j]? = some c → Rep w (oldS w) c ((F i).2.getD j undef)) ∧ w.cells? 0 ((at' b off).add (i * m)) m = some (F i).2 :=
      ⟨fun i => if hi : i < len then Classical.choose (each i hi) else y0, fun i hi => by simp only [dif_pos hi]; exact Classical.choose_spec (each i hi)⟩
    obtain ⟨F, hF⟩ := hfun
    have hcell : ∀ i, i < len → ∀ j, j < m → w.cell? (at' b (off + i * m + j)) = (F i).2[j]? ∧ (F i).2.length = m := fun i hi j hj => by
      obtain ⟨_, h3, h4⟩ := World.cells?_some (hF i hi).2.2.2.2
      have := h4 j hj
      rw [show ((at' b off).add (i * m)) = at' b (off + i * m) from Addr.add_lit b off _, add_at] at this
      exact ⟨this, h3⟩
    have hlt : ∀ i e', ((List.range len).map fun i => mk (F i).1)[i]? = some e' → i < len ∧ e' = mk (F i).1 := fun i e' hi => by
      rw [List.getElem?_map] at hi
      by_cases hil : i < len
      · rw [List.getElem?_range hil] at hi; exact ⟨hil, by simpa using hi.symm⟩
      · rw [List.getElem?_eq_none (by simpa using hil)] at hi; cases hi
    refine ⟨(List.range len).map fun i => (F i).1, ⟨fun x hx => ?_, by simp; omega⟩, rfl, by simp [D.flat], single ?_⟩
    · obtain ⟨i, hi, rfl⟩ := List.mem_map.1 hx
      exact (hF i (List.mem_range.1 hi)).1
    · rw [List.map_map]
      have hr := Rep.slice (w := w) (S := oldS w) z m hz.symm ((List.range len).map fun i => mk (F i).1) b off _ (fun i j => (F i).2.getD j undef) (by simpa using hl) hcap
        (fun e' he' => by
          obtain ⟨i, hi, rfl⟩ := List.mem_map.1 he'
          have hi' := List.mem_range.1 hi
          rw [hmk]
          exact ⟨by rw [(hF i hi').2.1]; exact (hcell i hi' 0 hpos).2, (hF i hi').2.2.1⟩)
        (fun i e' j c hi hj => by
          obtain ⟨hil, rfl⟩ := hlt i e' hi
          rw [hmk] at hj
          have hjl := (List.getElem?_eq_some_iff.1 hj).1
          rw [(hF i hil).2.1, (hcell i hil 0 hpos).2] at hjl
          have hc := (hcell i hil j hjl).1
          rw [List.getElem?_eq_getElem (by rw [(hcell i hil j hjl).2]; exact hjl)] at hc
          have hb : b < w.heap.size := by
            by_cases hb : b < w.heap.size
            · exact hb
            · simp [World.cell?, Array.getElem?_eq_none (Nat.le_of_not_lt hb)] at hc
          refine ⟨hb, ?_⟩
          rw [hc]
          simp [List.getD_eq_getElem?_getD, List.getElem?_eq_getElem (show j < (F i).2.length by rw [(hcell i hil j hjl).2]; exact hjl)])
        (fun i e' j c hi hj => by
          obtain ⟨hil, rfl⟩ := hlt i e' hi
          rw [hmk] at hj
          exact (hF i hil).2.2.2.1 j c hj)
      simpa [Function.comp_def] using hr

theorem OpensF.nil {o : Nat} : OpensF P o [] (fun _ : Unit => []) (fun _ => True) := by
  refine ⟨fun {H} enc w fuel cs _ => ?_⟩
  exact ⟨(), trivial, by simp, fun j c hj => by simp at hj⟩

theorem OpensF.cons {o n : Nat} {fd : Field} {fs : List Field} (ho : fd.offset = o) (hn : P.cellsOf fd.type = n) (h1 : Opens P fd.type f ok) (hl : ∀ a, (f a).length = n) (h2 : OpensF P (o + n) fs g ok') :
    OpensF P o (fd :: fs) (fun p : α × β => f p.1 ++ g p.2) (fun p => ok p.1 ∧ ok' p.2) := by
  refine ⟨fun {H} enc w fuel cs hall => ?_⟩
  obtain ⟨x, hx⟩ := hall fd (by simp)
  obtain ⟨a, k1, k2, k3, k4⟩ := h1.go enc w fuel _ x hx
  obtain ⟨b, m1, m2, m3⟩ := h2.go enc w fuel cs (fun fd' hfd' => hall fd' (by simp [hfd']))
  refine ⟨(a, b), ⟨k1, m1⟩, fun c hc => ?_, fun j c hj => ?_⟩
  · rcases List.mem_append.1 hc with hc | hc
    · exact k3 c hc
    · exact m2 c hc
  · by_cases hjn : j < n
    · rw [List.getElem?_append_left (by rw [hl]; exact hjn)] at hj
      have := k4 j c hj
      rw [ho, hn] at this
      have e : ((cs.drop o).take n).getD j undef = cs.getD (o + j) undef := by
        simp [List.getD_eq_getElem?_getD, List.getElem?_take, hjn]
      rwa [e] at this
    · rw [List.getElem?_append_right (by rw [hl]; omega), hl] at hj
      have := m3 (j - n) c hj
      rwa [show o + n + (j - n) = o + j by omega] at this

theorem Opens.struct {fds : Array Field} (ht : P.underlying t = some (.struct fds)) (h : OpensF P 0 fds.toList f ok) (hl : ∀ a, (f a).length = P.cellsOf t) : Opens P t f ok := by
  refine ⟨fun {H} enc w fuel cs x hx => ?_⟩
  obtain ⟨xs, n, rfl, _, hlen, hxl, hf⟩ := DataW.trod_struct ht hx
  obtain ⟨a, h1, h2, h3⟩ := h.go enc w n cs (fun fd hfd => by
    obtain ⟨i, hi⟩ := List.getElem?_of_mem hfd
    have hi' : fds[i]? = some fd := by simpa using hi
    have := hf i fd hi'
    have hlt : i < xs.length := by rw [hxl]; exact (Array.getElem?_eq_some_iff.1 hi').1
    rw [List.getElem?_eq_getElem hlt] at this
    exact ⟨_, this⟩)
  refine ⟨a, h1, by rw [hl, hlen], h2, fun j c hj => ?_⟩
  have := h3 j c hj
  rwa [Nat.zero_add] at this

/-- An argument, as a value. -/
structure OpensV (P : Program) (t : TypeId) {α : Type} (d : α → D) (ok : α → Prop) : Prop where
  go : ∀ {H : Type} (enc : TypeId × Value → H) (w : World) (v : Value) (x : DataW H) (ps : List MemPlace), Value.okWide P w .any w.heap.size t v ∨ (∃ base, Value.okWide P w .any base t v) → DataW.Trod enc P w 0 (fun _ => true) true t v x ps →
    ∃ a, ok a ∧ Rep w (oldS w) (d a) v

theorem Opens.one {d : α → D} (h : Opens P t (fun a => [d a]) ok) (ht : ∀ v w r b, Value.okWide P w r b t v → v.cells = #[v]) : OpensV P t d ok := by
  refine ⟨fun {H} enc w v x ps hv ⟨fuel, hx⟩ => ?_⟩
  have hc : v.cells = #[v] := by rcases hv with hv | ⟨b, hv⟩ <;> exact ht _ _ _ _ hv
  rw [hc] at hx
  obtain ⟨a, h1, h2, h3, h4⟩ := h.go enc w fuel _ _ hx
  exact ⟨a, h1, by have := h4 0 (d a) rfl; simpa using this⟩

theorem cells_int' {k : IntKind} (hu : P.underlying t = some (.int k)) : ∀ v w r b, Value.okWide P w r b t v → v.cells = #[v] := fun v w r b h => by
  obtain ⟨n, rfl⟩ := Go.WideShapes.okWide_int hu h; rfl
theorem cells_bool' (hu : P.underlying t = some .bool) : ∀ v w r b, Value.okWide P w r b t v → v.cells = #[v] := fun v w r b h => by
  obtain ⟨n, rfl⟩ := Go.WideShapes.okWide_bool hu h; rfl
theorem cells_str' (hu : P.underlying t = some .string) : ∀ v w r b, Value.okWide P w r b t v → v.cells = #[v] := fun v w r b h => by
  obtain ⟨n, rfl⟩ := Go.WideShapes.okWide_string hu h; rfl
theorem cells_slice' (hu : P.underlying t = some (.slice e)) : ∀ v w r b, Value.okWide P w r b t v → v.cells = #[v] := fun v w r b h => by
  obtain ⟨a, l, c, rfl⟩ := Go.WideShapes.okWide_slice hu h; rfl

theorem Opens.agg {fds : Array Field} (hu : P.underlying t = some (.struct fds)) (h : Opens P t f ok) : OpensV P t (fun a => .agg (f a)) ok := by
  refine ⟨fun {H} enc w v x ps hv ⟨fuel, hx⟩ => ?_⟩
  have hc : ∃ cs, v = .agg cs := by rcases hv with hv | ⟨b, hv⟩ <;> obtain ⟨cs, rfl, _⟩ := Go.WideShapes.okWide_struct hu hv <;> exact ⟨cs, rfl⟩
  obtain ⟨cs, rfl⟩ := hc
  obtain ⟨a, h1, h2, h3, h4⟩ := h.go enc w fuel _ _ hx
  refine ⟨a, h1, .agg _ _ (by rw [h2]; rfl) h3 (fun i c hi => ?_)⟩
  have := h4 i c hi
  rw [Array.getD_eq_getD_getElem?]
  rwa [List.getD_eq_getElem?_getD, Array.getElem?_toList] at this

end

/-- What a contract says at the row's own arguments. -/
theorem ACalls.row [Amb] {P : Program} {fid : FuncId} {ds : List D} {vs : Array Value} {w : World} (h : ACalls P fid ds (.d (.bool true))) (hG : Amb.G w (oldS w)) (hs : vs.size = ds.length) (hr : ∀ i d, ds[i]? = some d → Rep w (oldS w) d (vs.getD i undef)) :
    Calls P fid vs w fun e w' => e = .returned (.bool true) ∧ Below w.heap.size w w' :=
  (h.2 w (oldS w) vs hG (fun _ _ h => h) hs hr).mono fun e w' ⟨v, he, hb, hrel⟩ => by
    cases hrel
    exact ⟨he, hb⟩
end Ab

/- Regions that draw their order and make memory: every order is gone through. -/
namespace Ab
open Go Go.RowKit

def walkA [Amb] (E : Env) (N : Nat) (ops : Array Oper) (K : St → Prop) : Nat → Array Bool → St → Prop
  | 0, listed, σ => Region.ready .any ops listed = [] ∧ K σ
  | f + 1, listed, σ => (Region.ready .any ops listed = [] → K σ) ∧
    ∀ i ∈ Region.ready .any ops listed, ∃ o, ops[i]? = some o ∧ stp E N ops o σ (walkA E N ops K f (listed.setIfInBounds i true))

section
variable {base : Nat} {S0 : Nat → Nat → Prop} {w0 : World} {N : Nat} {a : Act} {w : World} {E : Env} {σ : St} {ops : Array Oper} {K : St → Prop}

theorem walkA.nil [Amb] {listed : Array Bool} (hr : Region.ready .any ops listed = []) (h : K σ) : walkA E N ops K 0 listed σ := ⟨hr, h⟩
theorem walkA.one [Amb] {f i : Nat} {o : Oper} {listed : Array Bool} (hr : Region.ready .any ops listed = [i]) (ho : ops[i]? = some o) (h : stp E N ops o σ (walkA E N ops K f (listed.setIfInBounds i true))) : walkA E N ops K (f + 1) listed σ :=
  ⟨fun hh => (by rw [hr] at hh; cases hh), fun j hj => by rw [hr] at hj; simp at hj; subst hj; exact ⟨o, ho, h⟩⟩
theorem walkA.two [Amb] {f i j : Nat} {o o' : Oper} {listed : Array Bool} (hr : Region.ready .any ops listed = [i, j]) (ho : ops[i]? = some o) (ho' : ops[j]? = some o') (h : stp E N ops o σ (walkA E N ops K f (listed.setIfInBounds i true)))
    (h' : stp E N ops o' σ (walkA E N ops K f (listed.setIfInBounds j true))) : walkA E N ops K (f + 1) listed σ :=
  ⟨fun hh => (by rw [hr] at hh; cases hh), fun x hx => by
    rw [hr] at hx
    simp at hx
    rcases hx with rfl | rfl
    · exact ⟨o, ho, h⟩
    · exact ⟨o', ho', h'⟩⟩

end
end Ab

namespace Ab
open Go Go.RowKit
@[simp] theorem keepT_own_own {m m' : Bool} {z z' : D} {es es' : List D} : keepT (.own m z es) (.own m' z' es') = true := rfl
@[simp] theorem keepT_val {t : T} {d : D} : keepT t (.val d) = true := by cases t <;> rfl
@[simp] theorem keepT_box {t : T} {cs : List C} : keepT t (.box cs) = true := by cases t <;> rfl
@[simp] theorem keepT_junk' {t : T} : keepT t .junk = true := by cases t <;> rfl
@[simp] theorem keepT_nils {t : T} : keepT t .nils = true := by cases t <;> rfl
@[simp] theorem keepT_tup {t : T} {ds : List D} : keepT t (.tup ds) = true := by cases t <;> rfl
@[simp] theorem keepT_alias {t : T} {p : Pl} : keepT t (.alias p) = true := by cases t <;> rfl
@[simp] theorem keepT_ptr {t : T} {s o : Nat} : keepT t (.ptr s o) = true := by cases t <;> rfl
section
variable {base : Nat} {S0 : Nat → Nat → Prop} {w0 : World} {N : Nat} {E : Env} {σ : St}
/-- Two ways meet again in one of a family of states. -/
theorem AWp.join [Amb] {ι : Type} (S : ι → St) {x y : Code} {Q : Exit → St → Prop} (h : AWp E base S0 w0 N x σ (thenQ (fun σ' => ∃ i, Weak σ' (S i)) Q)) (hy : ∀ i, AWp E base S0 w0 N y (S i) Q) :
    AWp E base S0 w0 N (.seq x y) σ Q := by
  refine AWp.seq (h.mono fun e σ' h => ?_)
  cases e with
  | normal => obtain ⟨i, hi⟩ := h; exact AWp.weak hi (hy i)
  | _ => exact h
end
end Ab

/- Arrays whose elements are one cell each, as arguments. -/
namespace Ab
open Go Go.RowKit
section
variable {P : Program} {t e : TypeId} {α β : Type} {d : α → D} {ok : α → Prop}

theorem Opens.arr {n : Nat} (ht : P.underlying t = some (.array n e)) (hc : P.cellsOf e = 1) (hn : P.cellsOf t = n) (h : Opens P e (fun a => [d a]) ok) :
    Opens P t (fun l : List α => l.map d) (fun l => l.length = n ∧ ∀ a ∈ l, ok a) := by
  refine ⟨fun {H} enc w fuel cs x hx => ?_⟩
  obtain ⟨xs, m, rfl, _, hlen, hxl, hf⟩ := DataW.trod_array ht hx
  rw [hn] at hlen
  have key : ∀ k : Nat, k ≤ n → ∃ l : List α, l.length = k ∧ (∀ a ∈ l, ok a) ∧ (∀ c ∈ l.map d, c.flat = true) ∧ ∀ j c, (l.map d)[j]? = some c → Rep w (oldS w) c (cs.getD j undef) := by
    intro k
    induction k with
    | zero => intro _; exact ⟨[], rfl, by simp, by simp, fun j c hj => by simp at hj⟩
    | succ k ih =>
      intro hk
      obtain ⟨l, h1, h2, h3, h4⟩ := ih (by omega)
      have hlt : k < xs.length := by omega
      have hh := hf k (by omega)
      rw [hc, Nat.mul_one, List.getElem?_eq_getElem hlt] at hh
      obtain ⟨a, a1, a2, a3, a4⟩ := h.go enc w m _ _ hh
      refine ⟨l ++ [a], by simp [h1], ?_, ?_, ?_⟩
      · intro b hb
        rcases List.mem_append.1 hb with hb | hb
        · exact h2 b hb
        · simp at hb; subst hb; exact a1
      · intro c hc'
        rw [List.map_append] at hc'
        rcases List.mem_append.1 hc' with hb | hb
        · exact h3 c hb
        · exact a3 c (by simpa using hb)
      · intro j c hj
        rw [List.map_append] at hj
        by_cases hjk : j < k
        · rw [List.getElem?_append_left (by simp [h1, hjk])] at hj
          exact h4 j c hj
        · rw [List.getElem?_append_right (by simp [h1]; omega)] at hj
          simp only [List.length_map, h1, List.map_cons, List.map_nil] at hj
          have hj0 : j - k = 0 := by
            rcases Nat.eq_zero_or_pos (j - k) with h0 | h0
            · exact h0
            · rw [List.getElem?_eq_none (by simp; omega)] at hj; cases hj
          rw [hj0] at hj
          have := a4 0 c hj
          have e1 : ((cs.drop k).take 1).getD 0 undef = cs.getD j undef := by
            have : j = k := by omega
            subst this
            simp [List.getD_eq_getElem?_getD, List.getElem?_take]
          rwa [e1] at this
  obtain ⟨l, h1, h2, h3, h4⟩ := key n (Nat.le_refl _)
  exact ⟨l, ⟨h1, h2⟩, by simp [h1, hlen], h3, h4⟩

theorem Opens.mapOk {f : α → List D} {g : β → List D} {ok : α → Prop} {ok' : β → Prop} (h : Opens P t f ok) (φ : α → β) (hg : ∀ a, ok a → g (φ a) = f a) (hok : ∀ a, ok a → ok' (φ a)) : Opens P t g ok' := by
  refine ⟨fun {H} enc w fuel cs x hx => ?_⟩
  obtain ⟨a, h1, h2, h3, h4⟩ := h.go enc w fuel cs x hx
  exact ⟨φ a, hok a h1, by rw [hg a h1]; exact h2, by rw [hg a h1]; exact h3, by rw [hg a h1]; exact h4⟩

end
end Ab

/- Tables of integers that a row lists: they hold through every walk. Contracts of the kit's shelf as contracts of this layer. -/
namespace Ab
open Go Go.RowKit

@[simp] theorem ba_size (l : List UInt8) : (ByteArray.mk l.toArray).size = l.length := rfl

structure TabL where
  name : String
  g : Nat
  k : IntKind
  zs : List Int

def tabsG (P : Program) (L : List TabL) (w : World) (S : Nat → Nat → Prop) : Prop := ∀ x ∈ L, Go.Lib.TabIs P w x.name x.k x.zs ∧ ∀ o, S x.g o
def tabsD (L : List TabL) (g : Nat) : Option (List D) :=
  match L with
  | [] => none
  | x :: r => if x.g = g then some (x.zs.map (D.int x.k)) else tabsD r g

theorem tabsD_mem : ∀ {L : List TabL} {g : Nat} {ds : List D}, tabsD L g = some ds → ∃ x ∈ L, x.g = g ∧ ds = x.zs.map (D.int x.k)
  | [], _, _, h => by cases h
  | x :: r, g, ds, h => by
    unfold tabsD at h
    split at h
    · rename_i hg
      exact ⟨x, by simp, hg, by simpa using h.symm⟩
    · obtain ⟨y, hy, h1, h2⟩ := tabsD_mem h
      exact ⟨y, by simp [hy], h1, h2⟩

theorem var_lt {P : Program} {w : World} {n : String} {g : Nat} {cs : Array Value} (hg : P.globalNamed n = some g) (h : w.var? P n = some cs) : g < w.heap.size := by
  unfold World.var? at h
  rw [hg] at h
  simp only [Option.bind_some] at h
  split at h
  · rename_i hh
    exact (Array.getElem?_eq_some_iff.1 hh).1
  · cases h

abbrev Amb.tabs (P : Program) (L : List TabL) (hg : ∀ x ∈ L, P.globalNamed x.name = some x.g) (hr : ∀ x ∈ L, ∀ z ∈ x.zs, x.k.min ≤ z ∧ z ≤ x.k.max) : Amb where
  G := tabsG P L
  tab := tabsD L
  mono := fun {w w' S S'} h hb hS x hx => by
    obtain ⟨h1, h2⟩ := h x hx
    exact ⟨Go.Lib.tabBelow_of_tabIs h1 w' hb, fun o => hS _ _ (var_lt (hg x hx) h1) (h2 o)⟩
  read := fun {w S g ds} h ht => by
    obtain ⟨x, hx, rfl, rfl⟩ := tabsD_mem ht
    obtain ⟨h1, h2⟩ := h x hx
    have key : ∀ (j : Nat) (c : D), (x.zs.map (D.int x.k))[j]? = some c → ∃ z, x.zs[j]? = some z ∧ c = .int x.k z := fun j c hj => by
      rw [List.getElem?_map] at hj
      cases hz : x.zs[j]? with
      | none => rw [hz] at hj; cases hj
      | some z => rw [hz] at hj; exact ⟨z, rfl, by simpa using hj.symm⟩
    refine .ref _ x.g 0 (fun j => .int x.k (x.zs.getD j 0)) (fun c hc => ?_) (fun j c hj => ?_) (fun j c hj => ?_)
    · obtain ⟨z, _, rfl⟩ := List.mem_map.1 hc; rfl
    · obtain ⟨z, hz, rfl⟩ := key j c hj
      refine ⟨h2 _, ?_⟩
      rw [Nat.zero_add]
      have := World.var?_cell (hg x hx) h1 j
      rw [this]
      simp [List.getD_eq_getElem?_getD, hz]
    · obtain ⟨z, hz, rfl⟩ := key j c hj
      simp only [List.getD_eq_getElem?_getD, hz, Option.getD_some]
      exact .int _ _ (hr x hx z (List.mem_of_getElem? hz))

abbrev Amb.none : Amb where
  G := fun _ _ => True
  tab := fun _ => Option.none
  mono := fun _ _ _ => trivial
  read := fun _ h => by cases h

/-- A contract proved elsewhere. -/
theorem ACalls.of [Amb] {P : Program} {f : FuncId} {ds : List D} {r : RetT} (hf : FnOk P f)
    (h : ∀ (w : World) (S : Nat → Nat → Prop) (vs : Array Value), Amb.G w S → vs.size = ds.length → (∀ i d, ds[i]? = some d → Rep w S d (vs.getD i undef)) →
      Calls P f vs w fun e w' => ∃ v, e = .returned v ∧ Below w.heap.size w w' ∧ RetRel w w' S r v) : ACalls P f ds r :=
  ⟨hf, fun w S vs hG _ hs hr => h w S vs hG hs hr⟩

theorem below_grow (w : World) (k : Nat) (os : Array Obj) : Below w.heap.size w (Go.Sort.grow (w.drewN k) os) :=
  ⟨rfl, rfl, rfl, by simp [Go.Sort.grow], fun i hi => by
    show (w.heap ++ os)[i]? = w.heap[i]?
    rw [Array.getElem?_append_left hi]⟩

/-- strconv.Itoa out of the shelf's contract. -/
theorem ACalls.itoa [Amb] {P : Program} {f : FuncId} (n : Int) (hf : FnOk P f) (hl : (Go.Lib.itoa n).length ≤ maxLen)
    (hG : ∀ w S, Amb.G w S → Go.Lib.TabIs P w "internal/strconv.uint64pow10" .u64 Go.Lib.pow10Tab)
    (h : ∀ (h0 : -9223372036854775808 ≤ n) (h1 : n ≤ 9223372036854775807) (w : World) (_ : Go.Lib.TabIs P w "internal/strconv.uint64pow10" .u64 Go.Lib.pow10Tab),
      Calls P f #[.int .i64 n] w fun e w' => e = .returned (.string ⟨(Go.Lib.itoa n).toArray⟩) ∧ ∃ k os, w' = Go.Sort.grow (w.drewN k) os) :
    ACalls P f [.int .i64 n] (.d (.str (Go.Lib.itoa n))) := by
  refine ACalls.of hf fun w S vs hg hs hr => ?_
  have h0 := hr 0 _ rfl
  have hv : vs = #[.int .i64 n] := by
    obtain ⟨l⟩ := vs
    match l, hs with
    | [v], _ =>
      have h1 : Rep w S (D.int .i64 n) v := by simpa using h0
      cases h1; rfl
  have hrg : IntKind.i64.min ≤ n ∧ n ≤ IntKind.i64.max := Ok_int ⟨w, S, _, h0⟩
  rw [hv]
  have h1 : -9223372036854775808 ≤ n ∧ n ≤ 9223372036854775807 := by rwa [show IntKind.i64.min = -9223372036854775808 from by decide, IntKind.max_i64] at hrg
  refine (h h1.1 h1.2 w (hG w S hg)).mono fun e w' ⟨he, k, os, hw⟩ => ?_
  subst hw
  exact ⟨_, he, below_grow w k os, .str _ hl⟩
end Ab

/- Regions that draw their order: every order is gone through, with one state for each set of operations that are done. -/
namespace Ab
open Go Go.RowKit

/-- From here on, whatever is ready may be taken; behind each step the state may be forgotten down to another. -/
def coreB [Amb] (E : Env) (N : Nat) (ops : Array Oper) (K : St → Prop) : Nat → Array Bool → St → Prop
  | 0, listed, σ => Region.ready .any ops listed = [] ∧ K σ
  | f + 1, listed, σ => (Region.ready .any ops listed = [] → K σ) ∧
    ∀ i ∈ Region.ready .any ops listed, ∃ o, ops[i]? = some o ∧ stp E N ops o σ (fun σ1 => ∃ σ', Weak σ1 σ' ∧ coreB E N ops K f (listed.setIfInBounds i true) σ')
def contB [Amb] (E : Env) (N : Nat) (ops : Array Oper) (K : St → Prop) (f : Nat) (listed : Array Bool) : St → Prop := fun σ1 => ∃ σ', Weak σ1 σ' ∧ coreB E N ops K f listed σ'

section
variable {base : Nat} {S0 : Nat → Nat → Prop} {w0 : World} {N : Nat} {a : Act} {w : World} {E : Env} {σ σ' : St} {ops : Array Oper} {K : St → Prop} {f : Nat} {listed : Array Bool}

theorem contB.mk [Amb] {l' : Array Bool} (hw : Weak σ σ') (h : coreB E N ops K f l' σ') (hl : l' = listed) : contB E N ops K f listed σ := by subst hl; exact ⟨σ', hw, h⟩
theorem coreB.cut [Amb] (f' : Nat) (l' : Array Bool) (σ' : St) (h : coreB E N ops K f' l' σ') (h2 : coreB E N ops K f' l' σ' → coreB E N ops K f listed σ) : coreB E N ops K f listed σ := h2 h
theorem coreB.nil [Amb] (hr : Region.ready .any ops listed = []) (h : K σ) : coreB E N ops K 0 listed σ := ⟨hr, h⟩

/-- one of the operations that are ready -/
def takeB [Amb] (E : Env) (N : Nat) (ops : Array Oper) (K : St → Prop) (f : Nat) (listed : Array Bool) (σ : St) (i : Nat) (o : Oper) : Prop := stp E N ops o σ (contB E N ops K f (listed.setIfInBounds i true))
def allB [Amb] (E : Env) (N : Nat) (ops : Array Oper) (K : St → Prop) (f : Nat) (listed : Array Bool) (σ : St) : List Nat → Prop
  | [] => True
  | i :: l => (∃ o, ops[i]? = some o ∧ takeB E N ops K f listed σ i o) ∧ allB E N ops K f listed σ l
theorem allB_mem [Amb] : ∀ {l : List Nat}, allB E N ops K f listed σ l → ∀ i ∈ l, ∃ o, ops[i]? = some o ∧ takeB E N ops K f listed σ i o
  | [], _, i, hi => by simp at hi
  | j :: l, h, i, hi => by
    rcases List.mem_cons.1 hi with rfl | hi
    · exact h.1
    · exact allB_mem h.2 i hi
theorem coreB.step [Amb] (l : List Nat) (hr : Region.ready .any ops listed = l) (hne : l ≠ []) (h : allB E N ops K f listed σ l) : coreB E N ops K (f + 1) listed σ :=
  ⟨fun hh => absurd (hr.symm.trans hh) hne, fun i hi => by
    rw [hr] at hi
    exact allB_mem h i hi⟩
theorem allB.nil [Amb] : allB E N ops K f listed σ [] := trivial
theorem allB.cons [Amb] {i : Nat} {l : List Nat} {o : Oper} (ho : ops[i]? = some o) (h : stp E N ops o σ (contB E N ops K f (listed.setIfInBounds i true))) (h2 : allB E N ops K f listed σ l) : allB E N ops K f listed σ (i :: l) := ⟨⟨o, ho, h⟩, h2⟩

end
end Ab

/- Contracts of the kit's shelf as contracts of this layer: strconv.Atoi, strings.Repeat. -/
namespace Ab
open Go Go.RowKit

theorem ACalls.repeat [Amb] {P : Program} {f : FuncId} {s : List UInt8} {c : Nat} (hf : FnOk P f) (hl : (Go.Lib.repeatL s c).length ≤ maxLen)
    (h : ∀ w : World, Calls P f #[.string ⟨s.toArray⟩, .int .i64 c] w fun e w' => e = .returned (.string ⟨(Go.Lib.repeatL s c).toArray⟩) ∧ Below w.heap.size w w') :
    ACalls P f [.str s, .int .i64 c] (.d (.str (Go.Lib.repeatL s c))) := by
  refine ACalls.of hf fun w S vs hg hs hr => ?_
  have h0 := hr 0 _ rfl
  have h1 := hr 1 _ rfl
  have hv : vs = #[.string ⟨s.toArray⟩, .int .i64 c] := by
    obtain ⟨l⟩ := vs
    match l, hs with
    | [v, u], _ =>
      have h2 : Rep w S (D.str s) v := by simpa using h0
      have h3 : Rep w S (D.int .i64 c) u := by simpa using h1
      cases h2; cases h3; rfl
  rw [hv]
  refine (h w).mono fun e w' ⟨he, hw⟩ => ?_
  exact ⟨_, he, hw, .str _ hl⟩
end Ab

/- Regions that draw their order, whose first n operations are plain values and whose others come last, in the order of the text. -/
namespace Ab
open Go Go.RowKit

def stpV [Amb] (E : Env) (N : Nat) (ops : Array Oper) (o : Oper) (σ : St) (K : St → Prop) : Prop :=
  match guardL ops σ o with
  | none => False
  | some gs =>
    match valOp E σ.get gs o.op with
    | some (c, l, t) => (gs.all id = true → c) ∧ fin N o.dst gs (frzS σ l) t K
    | none => False
def walkV [Amb] (E : Env) (N : Nat) (ops : Array Oper) : List Oper → St → (St → Prop) → Prop
  | [], σ, K => K σ
  | o :: os, σ, K => stpV E N ops o σ fun σ' => walkV E N ops os σ' K
def laterV [Amb] (E : Env) (N : Nat) (ops : Array Oper) (os : List Oper) (K : St → Prop) : St → Prop := fun σ' => walkV E N ops os σ' K
/-- behind the plain values -/
def restV [Amb] (E : Env) (N : Nat) (ops : Array Oper) (os : List Oper) (K : St → Prop) : St → Prop := fun σ' => walk E N ops os σ' K

section
variable {base : Nat} {S0 : Nat → Nat → Prop} {w0 : World} {N : Nat} {a : Act} {w : World} {bk : Pl → Option Nat} {E : Env} {σ : St}

@[simp] theorem walkV_cons [Amb] {ops : Array Oper} {o : Oper} {os : List Oper} {K : St → Prop} : walkV E N ops (o :: os) σ K = stpV E N ops o σ (laterV E N ops os K) := rfl
@[simp] theorem walkV_nil [Amb] {ops : Array Oper} {K : St → Prop} : walkV E N ops [] σ K = K σ := rfl
@[simp] theorem laterV_eq [Amb] {ops : Array Oper} {os : List Oper} {K : St → Prop} : laterV E N ops os K σ = walkV E N ops os σ K := rfl
@[simp] theorem restV_eq [Amb] {ops : Array Oper} {os : List Oper} {K : St → Prop} : restV E N ops os K σ = walk E N ops os σ K := rfl
end
attribute [simp] stpV
end Ab

/- Regions that draw their order: an operation that reads no memory may be taken first; the others are gone through, with one state for each set of operations that are done. -/
namespace Ab
open Go Go.RowKit

section
variable {base : Nat} {S0 : Nat → Nat → Prop} {w0 : World} {N : Nat} {a : Act} {w : World} {bk : Pl → Option Nat} {E : Env} {σ σ' : St} {ops : Array Oper} {K : St → Prop} {f : Nat} {listed : Array Bool}

/-- From here on, whatever is ready may be taken. -/
def coreS [Amb] (E : Env) (base : Nat) (S0 : Nat → Nat → Prop) (w0 : World) (N : Nat) (ops : Array Oper) (K : St → Prop) (f : Nat) (listed : Array Bool) (σ : St) : Prop :=
  ∀ a w, R base S0 w0 N σ.get a w → wpAny E.P .any ops (fun e a w => e = .normal ∧ Kc base S0 w0 N K a w) f listed a w
def contS [Amb] (E : Env) (base : Nat) (S0 : Nat → Nat → Prop) (w0 : World) (N : Nat) (ops : Array Oper) (K : St → Prop) (f : Nat) (listed : Array Bool) (σ : St) : Prop := coreS E base S0 w0 N ops K f listed σ

theorem contS.now [Amb] {f' : Nat} {l' : Array Bool} (h : coreS E base S0 w0 N ops K f' l' σ) (hf : f' = f) (hl : l' = listed) : contS E base S0 w0 N ops K f listed σ := by subst hf hl; exact h
theorem contS.mk [Amb] {l' : Array Bool} (hw : Weak σ σ') (h : coreS E base S0 w0 N ops K f l' σ') (hl : l' = listed) : contS E base S0 w0 N ops K f listed σ := by subst hl; exact fun a w hR => h a w (hR.weak hw)
theorem coreS.cut [Amb] (f' : Nat) (l' : Array Bool) (σ' : St) (h : coreS E base S0 w0 N ops K f' l' σ') (h2 : coreS E base S0 w0 N ops K f' l' σ' → coreS E base S0 w0 N ops K f listed σ) : coreS E base S0 w0 N ops K f listed σ := h2 h
theorem contS.cut [Amb] (f' : Nat) (l' : Array Bool) (σ' : St) (h : coreS E base S0 w0 N ops K f' l' σ') (h2 : coreS E base S0 w0 N ops K f' l' σ' → contS E base S0 w0 N ops K f listed σ) : contS E base S0 w0 N ops K f listed σ := h2 h
theorem coreS.nil [Amb] (hr : Region.ready .any ops listed = []) (h : K σ) : coreS E base S0 w0 N ops K 0 listed σ := fun a w hR => ⟨hr, rfl, σ, h, hR⟩
theorem contS.nil [Amb] (hr : Region.ready .any ops listed = []) (h : K σ) : contS E base S0 w0 N ops K 0 listed σ := fun a w hR => ⟨hr, rfl, σ, h, hR⟩

def anyS [Amb] (E : Env) (base : Nat) (S0 : Nat → Nat → Prop) (w0 : World) (N : Nat) (ops : Array Oper) (K : St → Prop) (f : Nat) (listed : Array Bool) (σ : St) : List Nat → Prop
  | [] => True
  | i :: l => (∃ o, ops[i]? = some o ∧ stp E N ops o σ (contS E base S0 w0 N ops K f (listed.setIfInBounds i true))) ∧ anyS E base S0 w0 N ops K f listed σ l
theorem anyS_mem [Amb] : ∀ {l : List Nat}, anyS E base S0 w0 N ops K f listed σ l → ∀ i ∈ l, ∃ o, ops[i]? = some o ∧ stp E N ops o σ (contS E base S0 w0 N ops K f (listed.setIfInBounds i true))
  | [], _, i, hi => by simp at hi
  | j :: l, h, i, hi => by
    rcases List.mem_cons.1 hi with rfl | hi
    · exact h.1
    · exact anyS_mem h.2 i hi
theorem anyS.nil [Amb] : anyS E base S0 w0 N ops K f listed σ [] := trivial
theorem anyS.cons [Amb] {i : Nat} {l : List Nat} {o : Oper} (ho : ops[i]? = some o) (h : stp E N ops o σ (contS E base S0 w0 N ops K f (listed.setIfInBounds i true))) (h2 : anyS E base S0 w0 N ops K f listed σ l) : anyS E base S0 w0 N ops K f listed σ (i :: l) := ⟨⟨o, ho, h⟩, h2⟩

theorem coreS.step [Amb] (hE : E.Ok) (l : List Nat) (hr : Region.ready .any ops listed = l) (hne : l ≠ []) (h : anyS E base S0 w0 N ops K f listed σ l) : coreS E base S0 w0 N ops K (f + 1) listed σ := by
  rintro a w ⟨bk, hR⟩
  refine ⟨fun h0 => absurd (hr.symm.trans h0) hne, fun i hi => ?_⟩
  rw [hr] at hi
  obtain ⟨o, ho, hst⟩ := anyS_mem h i hi
  have hst := stp_ok hE hR hst (fun e a w => e = .normal ∧ Kc base S0 w0 N K a w)
  unfold wpOp
  simp only [ho]
  split at hst
  · rename_i hw
    rw [if_pos hw]
    exact .inl (Oper.wp_mono (fun a' w' ⟨σ1, h1, h3⟩ => h1 a' w' h3) hst)
  · rename_i hw
    rw [if_neg hw]
    obtain ⟨σ1, h1, h3⟩ := hst
    exact h1 _ _ h3

theorem stpV_yields [Amb] (hE : E.Ok) (h : RB base S0 w0 N σ.get a w bk) {o : Oper} (hd : dryOp o.op = true) (hs : stpV E N ops o σ K) : ∃ v, Yields E.P ops o v a ∧ Kc base S0 w0 N K (a.put o.dst v) w := by
  unfold stpV at hs
  split at hs
  · exact hs.elim
  rename_i gs hg
  split at hs
  · rename_i c l t hv
    obtain ⟨hc, hK⟩ := hs
    have hf : RB base S0 w0 N (frzS σ l).get a w bk := by rw [frzS_get]; exact h.frzs l
    have hp := valOp_plain hv
    have hgd := guard_ok h hg
    cases hga : gs.all id with
    | true =>
      rw [hga] at hgd
      obtain ⟨v, h1, h2, _⟩ := valOp_okB hE h hga hv (hc hga)
      refine ⟨v, .inl ⟨hgd, fun w' => h1 w' (fun hh => by rw [hd] at hh; cases hh)⟩, fin_val hf (Below.refl _ _) hp (fun d => RT.optw (fun _ => ?_) (fun hh => by rw [hga] at hh; cases hh)) hK⟩
      rw [← frzS_get] at h2
      exact RT.put hf (Below.refl _ _) (optw_plain hp) hp h2
    | false =>
      rw [hga] at hgd
      exact ⟨undef, .inr ⟨hgd, rfl⟩, fin_skip hf hp hga hK⟩
  · exact hs.elim

theorem coreS.dry [Amb] (hE : E.Ok) (hs : Region.noSelect ops = true) (i : Nat) {o : Oper} (ho : ops[i]? = some o) (hd : dryOp o.op = true) (hf : Region.free .any ops listed i = true) (hr : (Region.ready .any ops listed).contains i = true)
    (h : stpV E N ops o σ (contS E base S0 w0 N ops K f (listed.setIfInBounds i true))) : coreS E base S0 w0 N ops K (f + 1) listed σ := by
  rintro a w ⟨bk, hR⟩
  obtain ⟨v, hy, σ1, h1, h2⟩ := stpV_yields hE hR hd h
  exact wpAny_take ho hs hf hr (fun c a' w' hh => by cases hh.1) hy (h1 _ _ h2)

theorem AWp.regionS [Amb] (hE : E.Ok) (hm : E.P.follows .mixedOrders = true) (V : List Nat) {id : Nat} {Q : Exit → St → Prop} (h : coreS E base S0 w0 N ops (fun σ' => Q .normal (clean V (settle V N σ' V))) ops.size (Array.replicate ops.size false) σ) :
    AWp E base S0 w0 N (.region id ops true) σ Q := by
  intro a w ⟨bk, hR⟩
  have hd : Below w.heap.size w { w with drawn := w.drawn + 1 } := ⟨rfl, rfl, rfl, Nat.le_refl _, fun _ _ => rfl⟩
  refine wp_mono (wp_region_any hm (h a _ ⟨bk, hR.world hd⟩)) ?_
  rintro e a' w' ⟨rfl, σ', h1, h2⟩
  exact ⟨_, h1, clean_ok V (settle_ok V V h2)⟩

theorem AWp.rseqS [Amb] (hE : E.Ok) (hm : E.P.follows .mixedOrders = true) (V : List Nat) {id n : Nat} {l : Array Bool} {y : Code} {Q : Exit → St → Prop} (hn : ops.size = n) (hl : Array.replicate n false = l)
    (h : ∀ K : St → Prop, (∀ σ', AWp E base S0 w0 N y σ' Q → K σ') → contS E base S0 w0 N ops (Ab.done V N K) n l σ) : AWp E base S0 w0 N (.seq (.region id ops true) y) σ Q := by
  subst hn hl
  exact AWp.seq (AWp.regionS hE hm V (h _ fun _ h => h))
theorem AWp.rendS [Amb] (hE : E.Ok) (hm : E.P.follows .mixedOrders = true) (V : List Nat) {id n : Nat} {l : Array Bool} {Q : Exit → St → Prop} (hn : ops.size = n) (hl : Array.replicate n false = l)
    (h : ∀ K : St → Prop, (∀ σ', Q .normal σ' → K σ') → contS E base S0 w0 N ops (Ab.done V N K) n l σ) : AWp E base S0 w0 N (.region id ops true) σ Q := by
  subst hn hl
  exact AWp.regionS hE hm V (h _ fun _ h => h)
end
end Ab

/- A range over a function that keeps a box of its own. -/
namespace Ab
open Go Go.RowKit Go.Shelf
set_option linter.unusedVariables false

/-- What an iterator may do between two rounds: new blocks; its own box, block B. -/
structure Turn (B : Nat) (A A' : World) : Prop where
  os : A'.os = A.os
  tape : A'.tape = A.tape
  output : A'.output = A.output
  size : A.heap.size ≤ A'.heap.size
  block : ∀ k, k < A.heap.size → k ≠ B → A'.heap[k]? = A.heap[k]?

theorem Turn.refl (B : Nat) (A : World) : Turn B A A := ⟨rfl, rfl, rfl, Nat.le_refl _, fun _ _ _ => rfl⟩
theorem Turn.trans {B : Nat} {X Y Z : World} (h : Turn B X Y) (k : Turn B Y Z) : Turn B X Z :=
  ⟨k.os.trans h.os, k.tape.trans h.tape, k.output.trans h.output, Nat.le_trans h.size k.size, fun i hi hb => (k.block i (Nat.lt_of_lt_of_le hi h.size) hb).trans (h.block i hi hb)⟩
theorem Turn.of_below {B : Nat} {A A' : World} (h : Below A.heap.size A A') : Turn B A A' := ⟨h.os, h.tape, h.output, h.size, fun k hk _ => h.block k hk⟩
theorem Turn.below {B n : Nat} {A A' : World} (h : Turn B A A') (hn : n ≤ A.heap.size) (hB : n ≤ B) : Below n A A' :=
  ⟨h.os, h.tape, h.output, h.size, fun k hk => h.block k (by omega) (by omega)⟩
theorem Turn.alloc {B : Nat} {A : World} (o : Obj) : Turn B A (A.alloc o) := Turn.of_below ((Below.refl _ A).alloc (Nat.le_refl _) o)

/-- What a round keeps: whatever lay below n₀, and the blocks that are named. -/
structure Keep (n₀ : Nat) (K : Nat → Prop) (A A' : World) : Prop where
  below : Below n₀ A A'
  same : ∀ k, K k → k < A.heap.size → A'.heap[k]? = A.heap[k]?

theorem Keep.refl {n₀ : Nat} {K : Nat → Prop} (A : World) : Keep n₀ K A A := ⟨Below.refl _ _, fun _ _ _ => rfl⟩
theorem Keep.trans {n₀ : Nat} {K : Nat → Prop} {X Y Z : World} (h : Keep n₀ K X Y) (k : Keep n₀ K Y Z) : Keep n₀ K X Z :=
  ⟨h.below.trans k.below, fun i hi hl => (k.same i hi (Nat.lt_of_lt_of_le hl h.below.size)).trans (h.same i hi hl)⟩

end Ab

/- The kit's words for deferred calls and locks, beside the engine. -/
namespace Ab
end Ab

/- A string that becomes bytes which the call writes: a row of its own. -/
namespace Ab
open Go Go.RowKit

def bytesL (s : List UInt8) : List D := s.map fun b => .int .u8 (b.toNat : Int)

def cvB [Amb] (N : Nat) (dst : Option Nat) (σ : St) (K : St → Prop) (c : Prop) : Option (List Bool) → Bool → T → Prop
  | some [], true, .val (.str s) => c ∧ s.length ≤ 16777216 ∧ newO N dst σ (.own true (.int .u8 0) (bytesL s)) K
  | _, _, _ => False
@[simp] theorem cvB_str [Amb] {N : Nat} {dst : Option Nat} {σ : St} {K : St → Prop} {c : Prop} {s : List UInt8} : cvB N dst σ K c (some []) true (.val (.str s)) = (c ∧ s.length ≤ 16777216 ∧ newO N dst σ (.own true (.int .u8 0) (bytesL s)) K) := rfl

/-- As 'stp'; a string that becomes bytes is a row of its own. -/
def stpB [Amb] (E : Env) (N : Nat) (ops : Array Oper) (o : Oper) (σ : St) (K : St → Prop) : Prop :=
  match o.op with
  | .convert src dst x => cvB N o.dst σ K (rd σ.get [] x).1 (guardL ops σ o) (E.bytesOf src dst) (rd σ.get [] x).2
  | _ => stp E N ops o σ K
section
variable [Amb] {E : Env} {N : Nat} {ops : Array Oper} {σ : St} {K : St → Prop} {d : Option Nat} {ty : TypeId} {pos : String} {after : Array Edge} {guard : Option (Nat × Bool)} {x y : Operand} {src dst : TypeId}
@[simp] theorem stpB_move : stpB E N ops { dst := d, op := .move x, type := ty, pos := pos, after := after, guard := guard } σ K = stp E N ops { dst := d, op := .move x, type := ty, pos := pos, after := after, guard := guard } σ K := rfl
@[simp] theorem stpB_assign : stpB E N ops { dst := d, op := .assign x, type := ty, pos := pos, after := after, guard := guard } σ K = stp E N ops { dst := d, op := .assign x, type := ty, pos := pos, after := after, guard := guard } σ K := rfl
@[simp] theorem stpB_conv : stpB E N ops { dst := d, op := .convert src dst x, type := ty, pos := pos, after := after, guard := guard } σ K = cvB N d σ K (rd σ.get [] x).1 (guardL ops σ { dst := d, op := .convert src dst x, type := ty, pos := pos, after := after, guard := guard }) (E.bytesOf src dst) (rd σ.get [] x).2 := rfl
end

def walkB [Amb] (E : Env) (N : Nat) (ops : Array Oper) : List Oper → St → (St → Prop) → Prop
  | [], σ, K => K σ
  | o :: os, σ, K => stpB E N ops o σ fun σ' => walkB E N ops os σ' K
def laterB [Amb] (E : Env) (N : Nat) (ops : Array Oper) (os : List Oper) (K : St → Prop) : St → Prop := fun σ' => walkB E N ops os σ' K

section
variable {base : Nat} {S0 : Nat → Nat → Prop} {w0 : World} {N : Nat} {a : Act} {w : World} {bk : Pl → Option Nat} {E : Env} {P : Program} {σ : St} {g : Nat → T}

@[simp] theorem walkB_cons [Amb] {ops : Array Oper} {o : Oper} {os : List Oper} {K : St → Prop} : walkB E N ops (o :: os) σ K = stpB E N ops o σ (laterB E N ops os K) := rfl
@[simp] theorem walkB_nil [Amb] {ops : Array Oper} {K : St → Prop} : walkB E N ops [] σ K = K σ := rfl
@[simp] theorem laterB_eq [Amb] {ops : Array Oper} {os : List Oper} {K : St → Prop} : laterB E N ops os K σ = walkB E N ops os σ K := rfl

end
end Ab
