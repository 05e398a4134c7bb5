/-
  A layer of rules over the model: frames as data, regions by evaluation, contracts of functions. No statement of the program. Conditions: none.
-/
import Derived.WalkKit
import Derived.Orders
import Derived.Laws.AppendOwn
import Derived.Laws.StructEq
import Derived.Laws.MakeOwn
import Derived.Laws.OwnMore
import Derived.ChangeKeysEq
set_option linter.unusedVariables false
set_option linter.unusedSimpArgs false
/- An abstract layer over the walk: values as data, a frame as a list of slots, ownership of the blocks that a call makes. -/
namespace Ab
open Go Go.RowKit

/-- Data: what a value holds, memory read out. -/
inductive D where
  | int (k : IntKind) (n : Int)
  | bool (b : Bool)
  | str (s : List UInt8)
  | slice (z : D) (es : List D)
  | agg (cs : List D)
  | fn (f : FuncId) (caps : List D)
  | ref (cs : List D)
  | lit (v : Value)

/-- The cells of one element. -/
def D.cells : D → List D
  | .agg cs => cs
  | .int k n => [.int k n]
  | .bool b => [.bool b]
  | .str s => [.str s]
  | .slice z es => [.slice z es]
  | .fn f c => [.fn f c]
  | .ref c => [.ref c]
  | .lit v => [.lit v]

def D.flat : D → Bool
  | .agg _ => false
  | _ => true

/-- The cell behind an address without a spot. -/
abbrev at' (b o : Nat) : Addr := ⟨b, o, none⟩

inductive Rep (w : World) (S : Nat → Nat → Prop) : D → Value → Prop
  | int (k : IntKind) (n : Int) (h : k.min ≤ n ∧ n ≤ k.max) : Rep w S (.int k n) (.int k n)
  | bool (b : Bool) : Rep w S (.bool b) (.bool b)
  | str (s : List UInt8) (h : s.length ≤ maxLen) : Rep w S (.str s) (.string ⟨s.toArray⟩)
  | lit (v : Value) (h : v.oneCell' = true) : Rep w S (.lit v) v
  | agg (cs : List D) (vs : Array Value) (hl : vs.size = cs.length) (hf : ∀ c ∈ cs, c.flat = true)
      (h : ∀ i c, cs[i]? = some c → Rep w S c (vs.getD i undef)) : Rep w S (.agg cs) (.agg vs)
  | nil (z : D) (a : Option Addr) (cap : Nat) (h : cap ≤ maxLen) : Rep w S (.slice z []) (.slice a 0 cap)
  | slice (z : D) (sz : Nat) (hz : sz = z.cells.length) (es : List D) (b off cap : Nat) (u : Nat → Nat → Value) (hlen : es.length ≤ cap) (hcap : cap ≤ maxLen)
      (hsz : ∀ e ∈ es, e.cells.length = sz ∧ ∀ c ∈ e.cells, c.flat = true)
      (hc : ∀ i e j c, es[i]? = some e → e.cells[j]? = some c → S b (off + i * sz + j) ∧ w.cell? (at' b (off + i * sz + j)) = some (u i j))
      (hr : ∀ i e j c, es[i]? = some e → e.cells[j]? = some c → Rep w S c (u i j)) : Rep w S (.slice z es) (.slice (some (at' b off)) es.length cap)
  | fn (f : FuncId) (caps : List D) (vs : Array Value) (hl : vs.size = caps.length)
      (h : ∀ i c, caps[i]? = some c → Rep w S c (vs.getD i undef)) : Rep w S (.fn f caps) (.func (.func f) #[] vs)
  | ref (cs : List D) (b off : Nat) (u : Nat → Value) (hf : ∀ c ∈ cs, c.flat = true)
      (hc : ∀ j c, cs[j]? = some c → S b (off + j) ∧ w.cell? (at' b (off + j)) = some (u j))
      (hr : ∀ j c, cs[j]? = some c → Rep w S c (u j)) : Rep w S (.ref cs) (.pointer (some (at' b off)))

theorem Rep.mono {w w' : World} {S S' : Nat → Nat → Prop} {d : D} {v : Value} (h : Rep w S d v)
    (hc : ∀ b o, S b o → w'.cell? (at' b o) = w.cell? (at' b o)) (hS : ∀ b o, S b o → S' b o) : Rep w' S' d v := by
  induction h with
  | int k n h => exact .int k n h
  | bool b => exact .bool b
  | str s h => exact .str s h
  | lit v h => exact .lit v h
  | agg cs vs hl hf h ih => exact .agg cs vs hl hf ih
  | nil z a cap h => exact .nil z a cap h
  | slice z sz hz es b off cap u hlen hcap hsz hcc hr ih =>
    exact .slice z sz hz es b off cap u hlen hcap hsz (fun i e j c he hj => by
      obtain ⟨h1, h2⟩ := hcc i e j c he hj
      exact ⟨hS _ _ h1, (hc _ _ h1).trans h2⟩) ih
  | fn f caps vs hl h ih => exact .fn f caps vs hl ih
  | ref cs b off u hf hcc hr ih =>
    exact .ref cs b off u hf (fun j c hj => by
      obtain ⟨h1, h2⟩ := hcc j c hj
      exact ⟨hS _ _ h1, (hc _ _ h1).trans h2⟩) ih

theorem Rep.oneCell {w : World} {S : Nat → Nat → Prop} {d : D} {v : Value} (h : Rep w S d v) (hd : d.flat = true) : v.oneCell' = true := by
  cases h <;> first | rfl | assumption | (simp [D.flat] at hd)

theorem D.cells_flat {d : D} (h : d.flat = true) : d.cells = [d] := by cases d <;> first | rfl | (simp [D.flat] at h)

theorem Rep.cells {w : World} {S : Nat → Nat → Prop} {d : D} {v : Value} (h : Rep w S d v) :
    v.cells.size = d.cells.length ∧ (∀ c ∈ d.cells, c.flat = true) ∧ ∀ i c, d.cells[i]? = some c → Rep w S c (v.cells.getD i undef) := by
  by_cases hd : d.flat = true
  · have h1 := h.oneCell hd
    have h2 : v.cells = #[v] := by cases v <;> first | rfl | (simp [Value.oneCell'] at h1)
    rw [D.cells_flat hd, h2]
    refine ⟨rfl, by simpa using hd, fun i c hi => ?_⟩
    match i, hi with
    | 0, hi => simp at hi; subst hi; simpa using h
  · cases h <;> first | (exfalso; exact hd rfl) | skip
    rename_i cs vs hl hf h
    exact ⟨hl, hf, h⟩

/-- What a program's variables hold that no function writes: 'G' says so of a world; 'tab': the cells of a variable, as data. -/
class Amb where
  G : World → (Nat → Nat → Prop) → Prop
  tab : Nat → Option (List D)
  mono : ∀ {w w' : World} {S S' : Nat → Nat → Prop}, G w S → Below w.heap.size w w' → (∀ b o, b < w.heap.size → S b o → S' b o) → G w' S'
  read : ∀ {w : World} {S : Nat → Nat → Prop} {g : Nat} {ds : List D}, G w S → tab g = some ds → Rep w S (.ref ds) (.pointer (some (at' g 0)))

/-! ### Slots -/
abbrev Pl := Nat × Nat

/-- A cell of a local variable: data; or a slice that owns its row. -/
inductive C where
  | d (x : D)
  | own (m : Bool) (z : D) (es : List D)

inductive T where
  | junk
  | nils
  | val (d : D)
  | opt (gs : List Bool) (t : T)
  | box (cs : List C)
  | own (m : Bool) (z : D) (es : List D)
  | tup (ds : List D)
  | alias (p : Pl)
  | ptr (s off : Nat)
  | optr (p : Pl) (i off : Nat)
  | lent (v : Value) (m : Bool) (z : D) (es : List D)

abbrev St := List (Nat × T)

def St.get : St → Nat → T
  | [], _ => .junk
  | (k, v) :: r, n => if k = n then v else St.get r n

def C.own? : C → Option (Bool × D × List D)
  | .own m z es => some (m, z, es)
  | .d _ => none

def T.ownAt : T → Nat → Option (Bool × D × List D)
  | .own m z es, 0 => some (m, z, es)
  | .lent _ m z es, 0 => some (m, z, es)
  | .box cs, i + 1 => (cs[i]?).bind C.own?
  | _, _ => none

def T.box? : T → Option (List C)
  | .box cs => some cs
  | _ => none

def limOf : Option (Bool × D × List D) → Nat
  | some (false, z, es) => es.length * z.cells.length
  | _ => 0

/-- The cells that no step of this call writes any more. -/
def stab (base : Nat) (S0 : Nat → Nat → Prop) (g : Nat → T) (bk : Pl → Option Nat) (n : Nat) (b o : Nat) : Prop :=
  (b < base ∧ S0 b o) ∨ (base ≤ b ∧ b < n ∧ ∀ p, bk p = some b → o < limOf ((g p.1).ownAt p.2))

/-- Block b holds these cells, none of them frozen (a mark behind the last cell may stand). -/
def HC (w : World) (b : Nat) (arr : Array Value) (ty : TypeId) : Prop := w.heap[b]? = some (.cells arr ty (0, 0)) ∨ w.heap[b]? = some (.cells arr ty (arr.size, arr.size + 1))

theorem HC.det {w : World} {b : Nat} {arr arr' : Array Value} {ty ty' : TypeId} (h : HC w b arr ty) (h' : HC w b arr' ty') : arr = arr' ∧ ty = ty' := by
  rcases h with h | h <;> rcases h' with h' | h' <;> rw [h] at h' <;> simp at h' <;> first | exact ⟨h'.1, h'.2.1⟩ | exact ⟨h'.1, h'.2⟩

theorem HC.of {w w' : World} {b : Nat} {arr : Array Value} {ty : TypeId} (h : HC w b arr ty) (he : w'.heap[b]? = w.heap[b]?) : HC w' b arr ty := by
  unfold HC; rw [he]; exact h

theorem HC.cell {w : World} {b : Nat} {arr : Array Value} {ty : TypeId} (h : HC w b arr ty) (o : Nat) : w.cell? (at' b o) = arr[o]? := by
  rcases h with h | h <;> exact cell_of_row w b o arr ty _ h

/-- The head of a slice value that owns the row in block 'ob'. -/
def Hdr (w : World) (ob : Option Nat) (sz n : Nat) (v : Value) : Prop :=
  (n = 0 ∧ ∃ a, v = .slice a 0 0) ∨
  ∃ b cap arr ty, ob = some b ∧ v = .slice (some (at' b 0)) n cap ∧ HC w b arr ty ∧ arr.size = cap * sz ∧ n ≤ cap ∧ cap ≤ maxLen

/-- What the row in block b holds. -/
def Cont (w : World) (S : Nat → Nat → Prop) (b sz : Nat) (es : List D) : Prop :=
  (∀ e ∈ es, e.cells.length = sz ∧ ∀ c ∈ e.cells, c.flat = true) ∧
  ∃ arr ty, HC w b arr ty ∧ es.length * sz ≤ arr.size ∧
    ∀ i e j c, es[i]? = some e → e.cells[j]? = some c → Rep w S c (arr.getD (i * sz + j) undef)

def RC (w : World) (S : Nat → Nat → Prop) (ob : Option Nat) : C → Value → Prop
  | .d x, v => Rep w S x v ∧ x.flat = true
  | .own _ z es, v => Hdr w ob z.cells.length es.length v

def Boxed (w : World) (S : Nat → Nat → Prop) (bk : Pl → Option Nat) (s : Nat) (cs : List C) : Prop :=
  ∃ b arr ty, bk (s, 0) = some b ∧ w.heap[b]? = some (.cells arr ty (0, 0)) ∧ arr.size = cs.length ∧
    ∀ i c, cs[i]? = some c → RC w S (bk (s, i + 1)) c (arr.getD i undef)

def RT (w : World) (S : Nat → Nat → Prop) (bk : Pl → Option Nat) (g : Nat → T) (s : Nat) : T → Value → Prop
  | .junk, _ => True
  | .nils, v => ∃ o, v = .slice o 0 0
  | .val d, v => Rep w S d v
  | .opt gs t, v => (gs.all id = true → RT w S bk g s t v) ∧ (gs.all id = false → v = undef)
  | .box _, v => ∃ b, bk (s, 0) = some b ∧ v = .pointer (some (at' b 0))
  | .own _ z es, v => Hdr w (bk (s, 0)) z.cells.length es.length v
  | .lent v _ z es, _ => Hdr w (bk (s, 0)) z.cells.length es.length v
  | .tup ds, v => ∃ arr, v = .tuple arr ∧ arr.size = ds.length ∧ ∀ i d, ds[i]? = some d → Rep w S d (arr.getD i undef)
  | .alias p, v => ∀ m z es, (g p.1).ownAt p.2 = some (m, z, es) → Hdr w (bk p) z.cells.length es.length v
  | .ptr s' off, v => ∀ cs, (g s').box? = some cs → ∃ b, bk (s', 0) = some b ∧ v = .pointer (some (at' b off))
  | .optr p i off, v => ∀ m z es, (g p.1).ownAt p.2 = some (m, z, es) → ∃ b, bk p = some b ∧ v = .pointer (some (at' b (i * z.cells.length + off)))

/-- Which slots a slot's content speaks of. -/
def T.refs : T → List Nat
  | .alias p => [p.1]
  | .ptr s _ => [s]
  | .optr p _ _ => [p.1]
  | .opt _ t => t.refs
  | _ => []

def T.plain : T → Bool
  | .box _ => false
  | .own .. => false
  | .lent .. => false
  | .opt _ t => t.plain
  | _ => true

structure RB [Amb] (base : Nat) (S0 : Nat → Nat → Prop) (w0 : World) (N : Nat) (g : Nat → T) (a : Act) (w : World) (bk : Pl → Option Nat) : Prop where
  defers : a.defers = []
  size : a.tmps.size = N
  hb : base = w0.heap.size
  below : Below base w0 w
  rng : ∀ p b, bk p = some b → base ≤ b ∧ b < w.heap.size
  inj : ∀ p q b, bk p = some b → bk q = some b → p = q
  slots : ∀ s, RT w (stab base S0 g bk w.heap.size) bk g s (g s) (a.tmps.getD s undef)
  own : ∀ p m z es, (g p.1).ownAt p.2 = some (m, z, es) → ∀ b, bk p = some b → Cont w (stab base S0 g bk w.heap.size) b z.cells.length es
  box : ∀ s cs, (g s).box? = some cs → Boxed w (stab base S0 g bk w.heap.size) bk s cs
  amb : Amb.G w0 S0

/-- The abstract frame g holds of the frame a in the world w. -/
def R [Amb] (base : Nat) (S0 : Nat → Nat → Prop) (w0 : World) (N : Nat) (g : Nat → T) (a : Act) (w : World) : Prop := ∃ bk, RB base S0 w0 N g a w bk

/-- the variables hold what they held -/
theorem RB.amb' [Amb] {base S0 w0 N g a w bk} (h : RB base S0 w0 N g a w bk) : Amb.G w (stab base S0 g bk w.heap.size) :=
  Amb.mono h.amb (h.hb ▸ h.below) (fun b o hb hs => .inl ⟨h.hb ▸ hb, hs⟩)

theorem RB.le [Amb] {base S0 w0 N g a w bk} (h : RB base S0 w0 N g a w bk) : base ≤ w.heap.size := by rw [h.hb]; exact h.below.size

end Ab

namespace Ab
open Go Go.RowKit

def upd (g : Nat → T) (d : Nat) (t : T) : Nat → T := fun s => if s = d then t else g s
def clr (bk : Pl → Option Nat) (d : Nat) : Pl → Option Nat := fun p => if p.1 = d then none else bk p
def setb (bk : Pl → Option Nat) (p : Pl) (ob : Option Nat) : Pl → Option Nat := fun q => if q = p then ob else bk q

@[simp] theorem upd_same (g : Nat → T) (d : Nat) (t : T) : upd g d t d = t := by simp [upd]
theorem upd_ne (g : Nat → T) {d s : Nat} (t : T) (h : s ≠ d) : upd g d t s = g s := by simp [upd, h]

/-- Block b keeps its size. -/
def Same (w w' : World) (b : Nat) : Prop := ∀ arr ty, HC w b arr ty → ∃ arr', HC w' b arr' ty ∧ arr'.size = arr.size

theorem Same.of_eq {w w' : World} {b : Nat} (h : w'.heap[b]? = w.heap[b]?) : Same w w' b := fun arr _ ha => ⟨arr, ha.of h, rfl⟩

theorem Hdr.same {w w' : World} {ob : Option Nat} {sz n : Nat} {v : Value} (h : Hdr w ob sz n v) (hs : ∀ b, ob = some b → Same w w' b) : Hdr w' ob sz n v := by
  rcases h with h | ⟨b, cap, arr, ty, hob, hv, hh, hsz, hn, hc⟩
  · exact .inl h
  · obtain ⟨arr', h1, h2⟩ := hs b hob arr ty hh
    exact .inr ⟨b, cap, arr', ty, hob, hv, h1, h2.trans hsz, hn, hc⟩

/-- What the content of slot r in g' says was so in g. -/
def Refine (w w' : World) (bk bk' : Pl → Option Nat) (g g' : Nat → T) (r : Nat) : Prop :=
  (∀ i m z es, (g' r).ownAt i = some (m, z, es) → ∃ m0 es0, (g r).ownAt i = some (m0, z, es0) ∧ es0.length = es.length ∧ bk' (r, i) = bk (r, i) ∧ ∀ b, bk (r, i) = some b → Same w w' b) ∧
  (∀ cs, (g' r).box? = some cs → ∃ cs0, (g r).box? = some cs0 ∧ bk' (r, 0) = bk (r, 0))

theorem Refine.refl {w w' : World} {bk bk' : Pl → Option Nat} {g g' : Nat → T} {r : Nat} (hg : g' r = g r) (hb : ∀ i, bk' (r, i) = bk (r, i))
    (hs : ∀ i b, bk (r, i) = some b → Same w w' b) : Refine w w' bk bk' g g' r :=
  ⟨fun i m sz es h => ⟨m, es, hg ▸ h, rfl, hb i, hs i⟩, fun cs h => ⟨cs, hg ▸ h, hb 0⟩⟩

theorem Refine.gone {w w' : World} {bk bk' : Pl → Option Nat} {g g' : Nat → T} {r : Nat} (h : (g' r).plain = true) : Refine w w' bk bk' g g' r := by
  refine ⟨fun i m _ es hh => ?_, fun cs hh => ?_⟩
  · cases hg : g' r <;> simp [hg, T.ownAt, T.plain] at hh h
  · cases hg : g' r <;> simp [hg, T.box?, T.plain] at hh h

theorem RT.frame [Amb] {w w' : World} {S S' : Nat → Nat → Prop} {bk bk' : Pl → Option Nat} {g g' : Nat → T} {s s' : Nat} {v : Value}
    (hc : ∀ b o, S b o → w'.cell? (at' b o) = w.cell? (at' b o)) (hS : ∀ b o, S b o → S' b o) :
    ∀ {t : T}, RT w S bk g s t v → (t.plain = false → bk' (s', 0) = bk (s, 0) ∧ ∀ b, bk (s, 0) = some b → Same w w' b) → (∀ r ∈ t.refs, Refine w w' bk bk' g g' r) → RT w' S' bk' g' s' t v
  | .junk, _, _, _ => trivial
  | .nils, h, _, _ => h
  | .val d, h, _, _ => Rep.mono h hc hS
  | .opt gs t, h, hp, hr => ⟨fun hg => RT.frame hc hS (h.1 hg) (by simpa [T.plain] using hp) (by simpa [T.refs] using hr), h.2⟩
  | .box cs, h, hp, _ => by
    obtain ⟨b, h1, h2⟩ := h
    exact ⟨b, (hp rfl).1.trans h1, h2⟩
  | .own m sz es, h, hp, _ => by
    show Hdr w' (bk' (s', 0)) sz.cells.length es.length _
    rw [(hp rfl).1]
    exact Hdr.same h (hp rfl).2
  | .lent u m sz es, h, hp, _ => by
    show Hdr w' (bk' (s', 0)) sz.cells.length es.length _
    rw [(hp rfl).1]
    exact Hdr.same h (hp rfl).2
  | .tup ds, h, _, _ => by
    obtain ⟨arr, h1, h2, h3⟩ := h
    exact ⟨arr, h1, h2, fun i d hi => (h3 i d hi).mono hc hS⟩
  | .alias p, h, _, hr => by
    intro m sz es ho
    obtain ⟨m0, es0, h1, h2, h3, h4⟩ := (hr p.1 (by simp [T.refs])).1 p.2 m sz es ho
    have := h m0 sz es0 h1
    rw [h2] at this
    rw [show bk' p = bk p from h3]
    exact this.same h4
  | .ptr r off, h, _, hr => by
    intro cs hb
    obtain ⟨cs0, h1, h2⟩ := (hr r (by simp [T.refs])).2 cs hb
    obtain ⟨b, h3, h4⟩ := h cs0 h1
    exact ⟨b, h2.trans h3, h4⟩
  | .optr p i off, h, _, hr => by
    intro m sz es ho
    obtain ⟨m0, es0, h1, _, h3, _⟩ := (hr p.1 (by simp [T.refs])).1 p.2 m sz es ho
    obtain ⟨b, h5, h6⟩ := h m0 sz es0 h1
    exact ⟨b, (show bk' p = bk p from h3).trans h5, h6⟩

theorem RC.mono [Amb] {w w' : World} {S S' : Nat → Nat → Prop} {ob : Option Nat} {c : C} {v : Value} (h : RC w S ob c v)
    (hc : ∀ b o, S b o → w'.cell? (at' b o) = w.cell? (at' b o)) (hS : ∀ b o, S b o → S' b o) (hs : ∀ b, ob = some b → Same w w' b) : RC w' S' ob c v := by
  cases c with
  | d x => exact ⟨h.1.mono hc hS, h.2⟩
  | own m sz es => exact Hdr.same h hs

theorem Cont.mono {w w' : World} {S S' : Nat → Nat → Prop} {b sz : Nat} {es : List D} (h : Cont w S b sz es) (hh : w'.heap[b]? = w.heap[b]?)
    (hc : ∀ b o, S b o → w'.cell? (at' b o) = w.cell? (at' b o)) (hS : ∀ b o, S b o → S' b o) : Cont w' S' b sz es := by
  obtain ⟨h1, arr, ty, h2, h3, h4⟩ := h
  exact ⟨h1, arr, ty, h2.of hh, h3, fun i e j c he hj => (h4 i e j c he hj).mono hc hS⟩

section
variable {base : Nat} {S0 : Nat → Nat → Prop} {w0 : World} {N : Nat} {g : Nat → T} {a : Act} {w : World} {bk : Pl → Option Nat}

theorem getD_put (a : Act) (d s : Nat) (v : Value) (hd : d < a.tmps.size) : (a.put (some d) v).tmps.getD s undef = if s = d then v else a.tmps.getD s undef := by
  simp only [Act.put, Array.getD_eq_getD_getElem?, Array.getElem?_setIfInBounds]
  by_cases h : d = s
  · subst h; simp [hd]
  · rw [if_neg h, if_neg (Ne.symm h)]

/-- THE GENERAL STEP: slot d becomes t; the other slots keep what they are. -/
theorem RB.core [Amb] (h : RB base S0 w0 N g a w bk) {w' : World} {a' : Act} {bk' : Pl → Option Nat} {d : Nat} {t : T}
    (hdef : a'.defers = []) (hN : a'.tmps.size = N) (htm : ∀ s, s ≠ d → a'.tmps.getD s undef = a.tmps.getD s undef) (hbel : Below base w w')
    (hrng : ∀ p b, bk' p = some b → base ≤ b ∧ b < w'.heap.size) (hinj : ∀ p q b, bk' p = some b → bk' q = some b → p = q)
    (hcell : ∀ b o, stab base S0 g bk w.heap.size b o → w'.cell? (at' b o) = w.cell? (at' b o))
    (hS : ∀ b o, stab base S0 g bk w.heap.size b o → stab base S0 (upd g d t) bk' w'.heap.size b o)
    (hbk : ∀ p, p.1 ≠ d → bk' p = bk p) (hblk : ∀ p b, p.1 ≠ d → bk p = some b → w'.heap[b]? = w.heap[b]?)
    (href : ∀ s, s ≠ d → d ∈ (g s).refs → Refine w w' bk bk' g (upd g d t) d)
    (ht : RT w' (stab base S0 (upd g d t) bk' w'.heap.size) bk' (upd g d t) d t (a'.tmps.getD d undef))
    (hown : ∀ i m z es, t.ownAt i = some (m, z, es) → ∀ b, bk' (d, i) = some b → Cont w' (stab base S0 (upd g d t) bk' w'.heap.size) b z.cells.length es)
    (hbox : ∀ cs, t.box? = some cs → Boxed w' (stab base S0 (upd g d t) bk' w'.heap.size) bk' d cs) :
    RB base S0 w0 N (upd g d t) a' w' bk' where
  amb := h.amb
  defers := hdef
  size := hN
  hb := h.hb
  below := h.below.trans hbel
  rng := hrng
  inj := hinj
  slots := fun s => by
    by_cases hs : s = d
    · subst hs; rw [upd_same]; exact ht
    · rw [upd_ne g t hs, htm s hs]
      have h0 := h.slots s
      have hpl : ∀ r, r ≠ d → Refine w w' bk bk' g (upd g d t) r := fun r hr =>
        Refine.refl (upd_ne g t hr) (fun i => hbk (r, i) hr) (fun i b hb => .of_eq (hblk (r, i) b hr hb))
      refine RT.frame hcell hS h0 (fun _ => ⟨hbk (s, 0) hs, fun b hb => .of_eq (hblk (s, 0) b hs hb)⟩) (fun r hr => ?_)
      by_cases hrd : r = d
      · subst hrd; exact href s hs hr
      · exact hpl r hrd
  own := fun p m sz es ho b hb => by
    by_cases hp : p.1 = d
    · obtain ⟨p1, p2⟩ := p
      simp only at hp; subst hp
      rw [upd_same] at ho
      exact hown p2 m sz es ho b hb
    · rw [upd_ne g t hp] at ho
      have hb' : bk p = some b := (hbk p hp) ▸ hb
      exact (h.own p m sz es ho b hb').mono (hblk p b hp hb') hcell hS
  box := fun s cs hb => by
    by_cases hs : s = d
    · subst hs; rw [upd_same] at hb; exact hbox cs hb
    · rw [upd_ne g t hs] at hb
      obtain ⟨b, arr, ty, h1, h2, h3, h4⟩ := h.box s cs hb
      refine ⟨b, arr, ty, (hbk (s, 0) hs).trans h1, (hblk (s, 0) b hs h1).trans h2, h3, fun i c hi => ?_⟩
      rw [show bk' (s, i + 1) = bk (s, i + 1) from hbk _ hs]
      exact (h4 i c hi).mono hcell hS (fun b' hb' => .of_eq (hblk (s, i + 1) b' hs hb'))

theorem put_defers (a : Act) (d : Nat) (v : Value) : (a.put (some d) v).defers = a.defers := rfl
theorem put_size (a : Act) (d : Nat) (v : Value) : (a.put (some d) v).tmps.size = a.tmps.size := by simp [Act.put]

theorem below_cell {n : Nat} {w w' : World} (h : Below n w w') {b o : Nat} (hb : b < n) : w'.cell? (at' b o) = w.cell? (at' b o) := h.cell (p := at' b o) hb

theorem stab_lt [Amb] (h : RB base S0 w0 N g a w bk) {b o : Nat} (hs : stab base S0 g bk w.heap.size b o) : b < w.heap.size := by
  rcases hs with ⟨h1, _⟩ | ⟨_, h1, _⟩
  · have := h.le; omega
  · exact h1

/-- What is known of the blocks behind slot d once it is written. -/
theorem stab_clr [Amb] (g : Nat → T) (bk : Pl → Option Nat) {n n' d : Nat} (t : T) (hn : n ≤ n') {b o : Nat} (h : stab base S0 g bk n b o) :
    stab base S0 (upd g d t) (clr bk d) n' b o := by
  rcases h with h | ⟨h1, h2, h3⟩
  · exact .inl h
  · refine .inr ⟨h1, by omega, fun p hp => ?_⟩
    unfold clr at hp
    split at hp
    · cases hp
    · rename_i hpd
      rw [upd_ne g t hpd]; exact h3 p hp

theorem plain_own {t : T} (h : t.plain = true) (i : Nat) : t.ownAt i = none := by cases t <;> first | rfl | (simp [T.plain] at h)
theorem plain_box {t : T} (h : t.plain = true) : t.box? = none := by cases t <;> first | rfl | (simp [T.plain] at h)

/-- Slot d is written with something that owns nothing; the world grows, or stays. -/
theorem RB.put [Amb] (h : RB base S0 w0 N g a w bk) {w' : World} {d : Nat} {t : T} {v : Value} (hd : d < N) (hw : Below w.heap.size w w') (hp : t.plain = true)
    (ht : RT w' (stab base S0 (upd g d t) (clr bk d) w'.heap.size) (clr bk d) (upd g d t) d t v) :
    RB base S0 w0 N (upd g d t) (a.put (some d) v) w' (clr bk d) := by
  have hlt : ∀ p b, clr bk d p = some b → bk p = some b := fun p b hb => by unfold clr at hb; split at hb; cases hb; exact hb
  refine h.core (t := t) (by rw [put_defers]; exact h.defers) (by rw [put_size]; exact h.size) (fun s hs => by rw [getD_put a d s v (by rw [h.size]; exact hd), if_neg hs]) (hw.mono h.le)
    (fun p b hb => ⟨(h.rng p b (hlt p b hb)).1, Nat.lt_of_lt_of_le (h.rng p b (hlt p b hb)).2 hw.size⟩) (fun p q b hp hq => h.inj p q b (hlt p b hp) (hlt q b hq))
    (fun b o hs => below_cell hw (stab_lt h hs)) (fun b o hs => stab_clr g bk t hw.size hs)
    (fun p hpd => by simp [clr, hpd]) (fun p b _ hb => hw.block b (h.rng p b hb).2)
    (fun s _ _ => Refine.gone (by rw [upd_same]; exact hp)) (by rw [getD_put a d d v (by rw [h.size]; exact hd), if_pos rfl]; exact ht)
    (fun i m sz es ho => by rw [plain_own hp] at ho; cases ho) (fun cs hb => by rw [plain_box hp] at hb; cases hb)

/-- Data, carried over such a step. -/
theorem Rep.put [Amb] {w' : World} {d : Nat} {t : T} {x : D} {v : Value} (h : RB base S0 w0 N g a w bk) (hw : Below w.heap.size w w')
    (hr : Rep w (stab base S0 g bk w.heap.size) x v) : Rep w' (stab base S0 (upd g d t) (clr bk d) w'.heap.size) x v :=
  hr.mono (fun _ _ hs => below_cell hw (stab_lt h hs)) (fun _ _ hs => stab_clr g bk t hw.size hs)

/-- Any content of an expression that owns nothing, carried over the write of slot d. -/
theorem RT.put [Amb] {w' : World} {d s : Nat} {t t0 : T} {v : Value} (h : RB base S0 w0 N g a w bk) (hw : Below w.heap.size w w') (hp : t.plain = true) (hp0 : t0.plain = true)
    (hr : RT w (stab base S0 g bk w.heap.size) bk g s t0 v) : RT w' (stab base S0 (upd g d t) (clr bk d) w'.heap.size) (clr bk d) (upd g d t) d t0 v := by
  refine RT.frame (fun _ _ hs => below_cell hw (stab_lt h hs)) (fun _ _ hs => stab_clr g bk t hw.size hs) hr (fun hh => by rw [hp0] at hh; cases hh) (fun r _ => ?_)
  by_cases hrd : r = d
  · subst hrd; exact Refine.gone (by rw [upd_same]; exact hp)
  · exact Refine.refl (upd_ne g t hrd) (fun i => by simp [clr, hrd]) (fun i b hb => .of_eq (hw.block b (h.rng (r, i) b hb).2))

/-- The stable cells once slot d owns block ob. -/
theorem stab_new [Amb] (h : RB base S0 w0 N g a w bk) {w' : World} {d : Nat} (t : T) {ob : Option Nat} (hob : ∀ b, ob = some b → w.heap.size ≤ b) (hn : w.heap.size ≤ w'.heap.size) {b o : Nat}
    (hs : stab base S0 g bk w.heap.size b o) : stab base S0 (upd g d t) (setb (clr bk d) (d, 0) ob) w'.heap.size b o := by
  have hlt := stab_lt h hs
  rcases stab_clr g bk (d := d) t hn hs with h1 | ⟨h1, h2, h3⟩
  · exact .inl h1
  · refine .inr ⟨h1, h2, fun p hp => ?_⟩
    unfold setb at hp
    split at hp
    · have := hob b hp; omega
    · exact h3 p hp

/-- Slot d comes to own a new block. -/
theorem RB.putOwner [Amb] (h : RB base S0 w0 N g a w bk) {w' : World} {d : Nat} {t : T} {v : Value} {ob : Option Nat} (hd : d < N) (hw : Below w.heap.size w w')
    (hno : ∀ s, s ≠ d → d ∉ (g s).refs) (hob : ∀ b, ob = some b → w.heap.size ≤ b ∧ b < w'.heap.size)
    (ht : RT w' (stab base S0 (upd g d t) (setb (clr bk d) (d, 0) ob) w'.heap.size) (setb (clr bk d) (d, 0) ob) (upd g d t) d t v)
    (hown : ∀ i m z es, t.ownAt i = some (m, z, es) → ∀ b, setb (clr bk d) (d, 0) ob (d, i) = some b → Cont w' (stab base S0 (upd g d t) (setb (clr bk d) (d, 0) ob) w'.heap.size) b z.cells.length es)
    (hbox : ∀ cs, t.box? = some cs → Boxed w' (stab base S0 (upd g d t) (setb (clr bk d) (d, 0) ob) w'.heap.size) (setb (clr bk d) (d, 0) ob) d cs) :
    RB base S0 w0 N (upd g d t) (a.put (some d) v) w' (setb (clr bk d) (d, 0) ob) := by
  have hlt : ∀ p b, setb (clr bk d) (d, 0) ob p = some b → (p = (d, 0) ∧ ob = some b) ∨ (p.1 ≠ d ∧ bk p = some b) := fun p b hb => by
    unfold setb at hb
    split at hb
    · exact .inl ⟨by assumption, hb⟩
    · unfold clr at hb
      split at hb
      · cases hb
      · exact .inr ⟨by assumption, hb⟩
  refine h.core (t := t) (by rw [put_defers]; exact h.defers) (by rw [put_size]; exact h.size) (fun s hs => by rw [getD_put a d s v (by rw [h.size]; exact hd), if_neg hs]) (hw.mono h.le)
    (fun p b hb => ?_) (fun p q b hp hq => ?_)
    (fun b o hs => below_cell hw (stab_lt h hs)) (fun b o hs => stab_new h t (fun b hb => (hob b hb).1) hw.size hs)
    (fun p hpd => by simp [clr, setb, hpd]; intro hh; exact absurd (by rw [hh]) hpd) (fun p b _ hb => hw.block b (h.rng p b hb).2)
    (fun s hs hr => absurd hr (hno s hs)) (by rw [getD_put a d d v (by rw [h.size]; exact hd), if_pos rfl]; exact ht) hown hbox
  · rcases hlt p b hb with ⟨_, hb⟩ | ⟨_, hb⟩
    · have := hob b hb; have := h.le; omega
    · have := h.rng p b hb; have := hw.size; omega
  · rcases hlt p b hp with ⟨h1, h2⟩ | ⟨h1, h2⟩ <;> rcases hlt q b hq with ⟨h3, h4⟩ | ⟨h3, h4⟩
    · rw [h1, h3]
    · have := hob b h2; have := h.rng q b h4; omega
    · have := hob b h4; have := h.rng p b h2; omega
    · exact h.inj p q b h2 h4
end
end Ab

namespace Ab
open Go Go.RowKit

/-! ### Types -/
inductive Key where
  | int (k : IntKind)
  | bool
  | string
  | slice (e : TypeId)
  | array (n : Nat) (e : TypeId)
  | struct (fs : List (Nat × TypeId))
  | other

def keyOf : TypeDesc → Key
  | .int k => .int k
  | .bool => .bool
  | .string => .string
  | .slice e => .slice e
  | .array n e => .array n e
  | .struct fs => .struct (fs.toList.map fun f => (f.offset, f.type))
  | _ => .other

structure TI where
  key : Key
  size : Nat
  bytes : Nat
  zero : Value
  zc : List D
  eq : List Nat

def D.zv : D → Value
  | .int k n => .int k n
  | .bool b => .bool b
  | .str s => .string ⟨s.toArray⟩
  | .slice _ _ => .slice none 0 0
  | .lit v => v
  | _ => undef

def D.zok : D → Bool
  | .int _ n => n == 0
  | .bool _ => true
  | .str s => s.isEmpty
  | .slice _ es => es.isEmpty
  | .lit v => v.oneCell'
  | _ => false

def Key.agg : Key → Bool
  | .struct _ => true
  | .array .. => true
  | _ => false

/-- The zero value as data. -/
def TI.zd (ti : TI) : D := if ti.key.agg then .agg ti.zc else ti.zc.headD (.bool false)

def tagOf : Option TypeDesc → Nat
  | some (.int _) => 0
  | some .bool => 1
  | some .string => 2
  | _ => 3

def fieldKeys (P : Program) (fs : List Field) : List (Nat × Nat × Bool) := fs.map fun f => (f.offset, tagOf (P.underlying f.type), f.name == "_")
def tagKeys : Nat → List Nat → List (Nat × Nat × Bool)
  | _, [] => []
  | k, t :: ts => (k, t, false) :: tagKeys (k + 1) ts

structure TyOk (P : Program) (t : TypeId) (ti : TI) : Prop where
  key : (P.underlying t).map keyOf = some ti.key
  info : (P.info? t).map (fun i => (i.size, i.bytes, i.zero)) = some (ti.size, ti.bytes, some ti.zero)
  zc : ti.zero.cells.toList = ti.zc.map D.zv
  zok : ti.zc.all D.zok = true
  len : ti.zc.length = ti.size
  one : ti.key.agg = false → ti.size = 1
  zero_slice : ∀ e, ti.key = .slice e → ti.zero = .slice none 0 0
  eq : ti.eq ≠ [] → ∀ fs, ti.key = .struct fs → P.stoodInHeld t = false ∧ P.eqGuardType P.depth t = false ∧ fieldKeys P (P.fieldsOf t).toList = tagKeys 0 ti.eq
  eqA : ti.eq ≠ [] → ∀ n e, ti.key = .array n e → P.eqGuardType P.depth t = false ∧ tagOf (P.underlying e) = 0 ∧ P.cellsOf e = 1 ∧ ti.eq = List.replicate n 0

structure Env where
  P : Program
  tab : TypeId → Option TI

def Env.Ok (E : Env) : Prop := E.P.follows .mixedOrders = true ∧ ∀ t ti, E.tab t = some ti → TyOk E.P t ti

def Env.szOf (E : Env) (t : TypeId) : Nat := match E.tab t with | some ti => ti.size | none => 0
def Env.zd (E : Env) (t : TypeId) : D := match E.tab t with | some ti => ti.zd | none => .bool false
/-- The zero of an element of slice type t. -/
def Env.elemZ (E : Env) (t : TypeId) : D := match E.tab t with | some { key := .slice e, .. } => E.zd e | _ => .bool false

section
variable {P : Program} {t : TypeId} {ti : TI}
theorem TyOk.size_eq (h : TyOk P t ti) : ∃ i, P.info? t = some i ∧ i.size = ti.size ∧ i.bytes = ti.bytes ∧ i.zero = some ti.zero := by
  have := h.info
  cases hi : P.info? t with
  | none => rw [hi] at this; cases this
  | some i => rw [hi] at this; simp at this; exact ⟨i, rfl, this.1, this.2.1, this.2.2⟩
theorem TyOk.run_sizeOf [Amb] (h : TyOk P t ti) (w : World) : (Go.sizeOf t).run P w = .ok ti.size w := by
  obtain ⟨i, h1, h2, _⟩ := h.size_eq
  simp [Go.sizeOf, typeInfo, h1, h2]
theorem TyOk.desc (h : TyOk P t ti) : ∃ d, P.underlying t = some d ∧ keyOf d = ti.key := by
  have := h.key
  cases hi : P.underlying t with
  | none => rw [hi] at this; cases this
  | some d => rw [hi] at this; simp at this; exact ⟨d, rfl, this⟩
theorem TyOk.int [Amb] (h : TyOk P t ti) {k : IntKind} (hk : ti.key = .int k) : P.underlying t = some (.int k) := by
  obtain ⟨d, h1, h2⟩ := h.desc
  rw [hk] at h2; cases d <;> simp [keyOf] at h2; rw [h1, h2]
theorem TyOk.bool [Amb] (h : TyOk P t ti) (hk : ti.key = .bool) : P.underlying t = some .bool := by
  obtain ⟨d, h1, h2⟩ := h.desc
  rw [hk] at h2; cases d <;> simp [keyOf] at h2; rw [h1]
theorem TyOk.string [Amb] (h : TyOk P t ti) (hk : ti.key = .string) : P.underlying t = some .string := by
  obtain ⟨d, h1, h2⟩ := h.desc
  rw [hk] at h2; cases d <;> simp [keyOf] at h2; rw [h1]
theorem TyOk.slice [Amb] (h : TyOk P t ti) {e : TypeId} (hk : ti.key = .slice e) : P.underlying t = some (.slice e) := by
  obtain ⟨d, h1, h2⟩ := h.desc
  rw [hk] at h2; cases d <;> simp [keyOf] at h2; rw [h1, h2]
theorem TyOk.array [Amb] (h : TyOk P t ti) {n : Nat} {e : TypeId} (hk : ti.key = .array n e) : P.underlying t = some (.array n e) := by
  obtain ⟨d, h1, h2⟩ := h.desc
  rw [hk] at h2; cases d <;> simp [keyOf] at h2; rw [h1, h2.1, h2.2]
theorem TyOk.struct [Amb] (h : TyOk P t ti) {fs : List (Nat × TypeId)} (hk : ti.key = .struct fs) : ∃ fds, P.underlying t = some (.struct fds) ∧ fs = fds.toList.map fun f => (f.offset, f.type) := by
  obtain ⟨d, h1, h2⟩ := h.desc
  rw [hk] at h2; cases d <;> simp [keyOf] at h2; exact ⟨_, h1, h2.symm⟩
theorem TyOk.run_isAgg [Amb] (h : TyOk P t ti) (w : World) : (isAgg t).run P w = .ok ti.key.agg w := by
  obtain ⟨d, h1, h2⟩ := h.desc
  rw [← h2]
  cases d <;> simp [isAgg, run_underlying h1, keyOf, Key.agg]
end

theorem wrap_rng (k : IntKind) (n : Int) : k.min ≤ k.wrap n ∧ k.wrap n ≤ k.max := by
  cases k <;> simp [IntKind.wrap, IntKind.min, IntKind.max, IntKind.bits, IntKind.signed] <;> (try split) <;> omega

/-! ### Reading an operand -/
def constT : Value → Prop × T
  | .int k n => (k.min ≤ n ∧ n ≤ k.max, .val (.int k n))
  | .bool b => (True, .val (.bool b))
  | .string s => (s.size ≤ maxLen, .val (.str s.data.toList))
  | .slice none 0 0 => (True, .nils)
  | .nilIface => (True, .val (.lit .nilIface))
  | .nilFunc => (True, .val (.lit .nilFunc))
  | _ => (True, .junk)

def T.noOpt : T → T
  | .opt _ _ => .junk
  | .box _ => .junk
  | .own .. => .junk
  | .lent .. => .junk
  | t => t

def rdT (s : Nat) (gs : List Bool) : T → Prop × T
  | .own .. => (True, .alias (s, 0))
  | .lent .. => (True, .junk)
  | .box _ => (True, .ptr s 0)
  | .opt gs' t => (gs.drop (gs.length - gs'.length) = gs', t.noOpt)
  | t => (True, t)

def rd [Amb] (g : Nat → T) (gs : List Bool) : Operand → Prop × T
  | .tmp s => rdT s gs (g s)
  | .const v => constT v
  | .global g => (True, match Amb.tab g with | some ds => .val (.ref ds) | none => .junk)
  | .func f => (True, .val (.fn f []))

theorem all_drop {gs gs' : List Bool} (h : gs.all id = true) (hd : gs.drop (gs.length - gs'.length) = gs') : gs'.all id = true := by
  rw [← hd]
  rw [List.all_eq_true] at h ⊢
  exact fun x hx => h x (List.mem_of_mem_drop hx)

theorem T.noOpt_plain (t : T) : t.noOpt.plain = true := by cases t <;> rfl

section
variable {base : Nat} {S0 : Nat → Nat → Prop} {w0 : World} {N : Nat} {g : Nat → T} {a : Act} {w : World} {bk : Pl → Option Nat}

theorem RT.noOpt {S : Nat → Nat → Prop} {s s' : Nat} {t : T} {v : Value} (h : RT w S bk g s t v) : RT w S bk g s' t.noOpt v := by
  cases t <;> first | exact h | trivial

/-- The content does not hang on the slot's own number, where nothing is owned. -/
theorem RT.any [Amb] {S : Nat → Nat → Prop} {s s' : Nat} {v : Value} : ∀ {t : T}, t.plain = true → RT w S bk g s t v → RT w S bk g s' t v
  | .junk, _, h | .nils, _, h | .val _, _, h | .tup _, _, h | .alias _, _, h | .ptr .., _, h | .optr .., _, h => h
  | .opt _ t, hp, h => ⟨fun hg => RT.any (t := t) (by simpa [T.plain] using hp) (h.1 hg), h.2⟩

theorem constT_ok {S : Nat → Nat → Prop} {s : Nat} (v : Value) (hc : (constT v).1) : RT w S bk g s (constT v).2 v ∧ (constT v).2.plain = true := by
  unfold constT at hc ⊢
  split <;> first | exact ⟨trivial, rfl⟩ | skip
  · exact ⟨.int _ _ hc, rfl⟩
  · exact ⟨.bool _, rfl⟩
  · rename_i s
    refine ⟨?_, rfl⟩
    obtain ⟨⟨l⟩⟩ := s
    exact .str l hc
  · exact ⟨⟨none, rfl⟩, rfl⟩
  · exact ⟨.lit _ rfl, rfl⟩
  · exact ⟨.lit _ rfl, rfl⟩

theorem rd_ok [Amb] (h : RB base S0 w0 N g a w bk) {gs : List Bool} (hgs : gs.all id = true) (x : Operand) (hc : (rd g gs x).1) :
    RT w (stab base S0 g bk w.heap.size) bk g 0 (rd g gs x).2 (a.eval x) ∧ (rd g gs x).2.plain = true := by
  cases x with
  | tmp s =>
    have h0 := h.slots s
    show RT _ _ _ _ _ (rdT s gs (g s)).2 (a.tmps.getD s undef) ∧ _
    replace hc : (rdT s gs (g s)).1 := hc
    show _ ∧ (rdT s gs (g s)).2.plain = true
    cases hg : g s with
    | own m sz es =>
      rw [hg] at h0
      refine ⟨fun m' sz' es' ho => ?_, rfl⟩
      rw [show (s, 0).fst = s from rfl, hg] at ho
      simp only [T.ownAt, Option.some.injEq, Prod.mk.injEq] at ho
      obtain ⟨_, rfl, rfl⟩ := ho
      exact h0
    | lent => exact ⟨trivial, rfl⟩
    | box cs =>
      rw [hg] at h0
      exact ⟨fun _ _ => h0, rfl⟩
    | opt gs' t =>
      rw [hg] at h0 hc
      exact ⟨(h0.1 (all_drop hgs hc)).noOpt, T.noOpt_plain t⟩
    | _ => rw [hg] at h0; exact ⟨h0, rfl⟩
  | const v => exact constT_ok v hc
  | global b =>
    show RT _ _ _ _ _ (match Amb.tab b with | some ds => T.val (.ref ds) | none => .junk) _ ∧ (match Amb.tab b with | some ds => T.val (.ref ds) | none => .junk).plain = true
    cases hb : Amb.tab b with
    | none => exact ⟨trivial, rfl⟩
    | some ds => exact ⟨Amb.read h.amb' hb, rfl⟩
  | func f => exact ⟨.fn f [] #[] rfl (fun i c hi => by simp at hi), rfl⟩

/-! ### Data out of a slot's content -/
/-- As data: what must be frozen first, and the datum. -/
def dat (g : Nat → T) (hint : D) : T → Option (List Nat × D)
  | .val d => some ([], d)
  | .nils => some ([], .slice hint [])
  | .alias p => match (g p.1).ownAt p.2 with
    | some (m, sz, es) => some (if m then [p.1] else [], .slice sz es)
    | none => none
  | _ => none

def C.frz : C → C
  | .own _ sz es => .own false sz es
  | c => c
def T.frz : T → T
  | .own _ sz es => .own false sz es
  | .lent v _ sz es => .lent v false sz es
  | .box cs => .box (cs.map C.frz)
  | t => t
def frzs (g : Nat → T) : List Nat → Nat → T
  | [] => g
  | s :: r => frzs (upd g s (g s).frz) r

theorem frz_ownAt (t : T) (i : Nat) {m : Bool} {sz : D} {es : List D} (h : t.frz.ownAt i = some (m, sz, es)) : m = false ∧ ∃ m0, t.ownAt i = some (m0, sz, es) := by
  cases t with
  | own m0 sz0 es0 =>
    cases i with
    | zero => simp [T.frz, T.ownAt] at h ⊢; exact h
    | succ i => simp [T.frz, T.ownAt] at h
  | lent u m0 sz0 es0 =>
    cases i with
    | zero => simp [T.frz, T.ownAt] at h ⊢; exact h
    | succ i => simp [T.frz, T.ownAt] at h
  | box cs =>
    cases i with
    | zero => simp [T.frz, T.ownAt] at h
    | succ i =>
      simp only [T.frz, T.ownAt, List.getElem?_map] at h ⊢
      cases hc : cs[i]? with
      | none => rw [hc] at h; simp at h
      | some c =>
        rw [hc] at h
        cases c with
        | d x => simp [C.frz, C.own?] at h
        | own m0 sz0 es0 => simp [C.frz, C.own?] at h ⊢; exact h
  | _ => simp [T.frz, T.ownAt] at h
theorem frz_ownAt' (t : T) (i : Nat) {m : Bool} {sz : D} {es : List D} (h : t.ownAt i = some (m, sz, es)) : t.frz.ownAt i = some (false, sz, es) := by
  cases t with
  | own m0 sz0 es0 =>
    cases i with
    | zero => simp [T.frz, T.ownAt] at h ⊢; exact h.2
    | succ i => simp [T.ownAt] at h
  | lent u m0 sz0 es0 =>
    cases i with
    | zero => simp [T.frz, T.ownAt] at h ⊢; exact h.2
    | succ i => simp [T.ownAt] at h
  | box cs =>
    cases i with
    | zero => simp [T.ownAt] at h
    | succ i =>
      simp only [T.frz, T.ownAt, List.getElem?_map] at h ⊢
      cases hc : cs[i]? with
      | none => rw [hc] at h; simp at h
      | some c =>
        rw [hc] at h
        cases c with
        | d x => simp [C.own?] at h
        | own m0 sz0 es0 => simp [C.frz, C.own?] at h ⊢; exact h.2
  | _ => simp [T.ownAt] at h

theorem stab_frz [Amb] (g : Nat → T) (bk : Pl → Option Nat) (n s : Nat) {b o : Nat} (h : stab base S0 g bk n b o) : stab base S0 (upd g s (g s).frz) bk n b o := by
  rcases h with h | ⟨h1, h2, h3⟩
  · exact .inl h
  · refine .inr ⟨h1, h2, fun p hp => ?_⟩
    have := h3 p hp
    by_cases hs : p.1 = s
    · subst hs
      rw [upd_same]
      cases ho : (g p.1).ownAt p.2 with
      | none => rw [ho] at this; simp [limOf] at this
      | some x =>
        obtain ⟨m, sz, es⟩ := x
        rw [frz_ownAt' _ _ ho]
        rw [ho] at this
        cases m <;> simp [limOf] at this ⊢
        exact this
    · rw [upd_ne g _ hs]; exact this

theorem RB.frz [Amb] (h : RB base S0 w0 N g a w bk) (s : Nat) : RB base S0 w0 N (upd g s (g s).frz) a w bk := by
  refine h.core (t := (g s).frz) h.defers h.size (fun _ _ => rfl) (Below.refl _ _) h.rng h.inj (fun _ _ _ => rfl) (fun _ _ hs => stab_frz g bk _ s hs)
    (fun _ _ => rfl) (fun _ _ _ _ => rfl) (fun s' _ _ => ?_) ?_ ?_ ?_
  · refine ⟨fun i m sz es ho => ?_, fun cs hb => ?_⟩
    · rw [upd_same] at ho
      obtain ⟨_, m0, ho'⟩ := frz_ownAt _ _ ho
      exact ⟨m0, es, ho', rfl, rfl, fun b _ => .of_eq rfl⟩
    · rw [upd_same] at hb
      cases hg : g s <;> rw [hg] at hb <;> simp [T.frz, T.box?] at hb ⊢
  · have h0 := h.slots s
    have hfr : ∀ t : T, t.refs = t.refs := fun _ => rfl
    cases hg : g s with
    | own m sz es => rw [hg] at h0; exact h0
    | lent u m sz es => rw [hg] at h0; exact h0
    | box cs => rw [hg] at h0; exact h0
    | _ =>
      rw [hg] at h0
      refine RT.frame (t := _) (s := s) (fun _ _ _ => rfl) (fun _ _ hs => ?_) h0 (fun _ => ⟨rfl, fun _ _ => .of_eq rfl⟩) (fun r _ => ?_)
      · have := stab_frz g bk w.heap.size s hs
        rw [hg] at this; exact this
      · by_cases hrs : r = s
        · subst hrs; exact Refine.refl (by rw [upd_same, hg]; rfl) (fun _ => rfl) (fun _ _ _ => .of_eq rfl)
        · exact Refine.refl (by rw [upd_ne _ _ hrs]) (fun _ => rfl) (fun _ _ _ => .of_eq rfl)
  · intro i m sz es ho b hb
    obtain ⟨_, m0, ho'⟩ := frz_ownAt _ _ ho
    exact (h.own (s, i) m0 sz es ho' b hb).mono rfl (fun _ _ _ => rfl) (fun _ _ hs => stab_frz g bk _ s hs)
  · intro cs hb
    cases hg : g s <;> rw [hg] at hb <;> simp [T.frz, T.box?] at hb
    rename_i cs0
    subst hb
    obtain ⟨b, arr, ty, h1, h2, h3, h4⟩ := h.box s cs0 (by rw [hg]; rfl)
    refine ⟨b, arr, ty, h1, h2, by simpa using h3, fun i c hi => ?_⟩
    rw [List.getElem?_map] at hi
    cases hc : cs0[i]? with
    | none => rw [hc] at hi; simp at hi
    | some c0 =>
      rw [hc] at hi; simp at hi; subst hi
      have hst : ∀ b o, stab base S0 g bk w.heap.size b o → stab base S0 (upd g s (T.box (cs0.map C.frz))) bk w.heap.size b o := fun b o hs => by
        have := stab_frz g bk w.heap.size s hs
        rw [hg] at this; exact this
      cases c0 with
      | d x =>
        have := h4 i _ hc
        exact ⟨this.1.mono (fun _ _ _ => rfl) hst, this.2⟩
      | own m sz es => exact h4 i _ hc

theorem RB.frzs [Amb] (h : RB base S0 w0 N g a w bk) (l : List Nat) : RB base S0 w0 N (frzs g l) a w bk := by
  induction l generalizing g with
  | nil => exact h
  | cons s r ih => exact ih (h.frz s)

/-- A slice that owns its row, read as data, once it is frozen. -/
theorem own_rep [Amb] (h : RB base S0 w0 N g a w bk) {p : Pl} {z : D} {es : List D} {v : Value} (ho : (g p.1).ownAt p.2 = some (false, z, es))
    (hv : Hdr w (bk p) z.cells.length es.length v) : Rep w (stab base S0 g bk w.heap.size) (.slice z es) v := by
  rcases hv with ⟨hn, a, rfl⟩ | ⟨b, cap, arr, ty, hob, rfl, hh, hsz, hn, hc⟩
  · have : es = [] := List.eq_nil_of_length_eq_zero hn
    subst this
    exact .nil z a 0 (Nat.zero_le _)
  · obtain ⟨h1, arr', ty', h2, h3, h4⟩ := h.own p false z es ho b hob
    obtain ⟨rfl, rfl⟩ := hh.det h2
    refine .slice z _ rfl es b 0 cap (fun i j => arr.getD (i * z.cells.length + j) undef) hn hc h1 (fun i e j c he hj => ?_) h4
    have hi : i < es.length := (List.getElem?_eq_some_iff.1 he).1
    have hj' : j < e.cells.length := (List.getElem?_eq_some_iff.1 hj).1
    have hsz' := (h1 e (List.mem_of_getElem? he)).1
    have hlt : i * z.cells.length + j < es.length * z.cells.length := by
      have : (i + 1) * z.cells.length ≤ es.length * z.cells.length := Nat.mul_le_mul_right _ hi
      rw [Nat.add_mul] at this; omega
    simp only [Nat.zero_add]
    refine ⟨.inr ⟨(h.rng p b hob).1, (h.rng p b hob).2, fun q hq => ?_⟩, ?_⟩
    · rw [h.inj q p b hq hob, ho]; exact hlt
    · rw [hh.cell, Array.getD_eq_getD_getElem?]
      have : i * z.cells.length + j < arr.size := by omega
      simp [this]

theorem frzs_ok [Amb] (h : RB base S0 w0 N g a w bk) (l : List Nat) {p : Pl} {m : Bool} {sz : D} {es : List D} (ho : (g p.1).ownAt p.2 = some (m, sz, es))
    (hl : m = true → p.1 ∈ l) : (frzs g l p.1).ownAt p.2 = some (false, sz, es) := by
  induction l generalizing g m with
  | nil =>
    cases m
    · exact ho
    · exact absurd (hl rfl) (by simp)
  | cons s r ih =>
    have h' := h.frz s
    by_cases hs : p.1 = s
    · subst hs
      exact ih h' (by rw [upd_same]; exact frz_ownAt' _ _ ho) (fun hh => by cases hh)
    · exact ih h' (by rw [upd_ne _ _ hs]; exact ho) (fun hh => by
        have := hl hh
        simp [hs] at this; exact this)

theorem frzs_slots [Amb] (h : RB base S0 w0 N g a w bk) (l : List Nat) {t : T} {v : Value} (hp : t.plain = true) (ht : RT w (stab base S0 g bk w.heap.size) bk g 0 t v) :
    RT w (stab base S0 (frzs g l) bk w.heap.size) bk (frzs g l) 0 t v := by
  induction l generalizing g with
  | nil => exact ht
  | cons s r ih =>
    refine ih (h.frz s) ?_
    refine RT.frame (fun _ _ _ => rfl) (fun _ _ hs => stab_frz g bk _ s hs) ht (fun hh => by rw [hp] at hh; cases hh) (fun r _ => ?_)
    by_cases hrs : r = s
    · subst hrs
      refine ⟨fun i m sz es ho => ?_, fun cs hb => ?_⟩
      · rw [upd_same] at ho
        obtain ⟨_, m0, ho'⟩ := frz_ownAt _ _ ho
        exact ⟨m0, es, ho', rfl, rfl, fun b _ => .of_eq rfl⟩
      · rw [upd_same] at hb
        cases hg : g r <;> rw [hg] at hb <;> simp [T.frz, T.box?] at hb ⊢
    · exact Refine.refl (by rw [upd_ne _ _ hrs]) (fun _ => rfl) (fun _ _ _ => .of_eq rfl)

/-- The datum of a content, once what it names is frozen. -/
theorem dat_ok [Amb] (h : RB base S0 w0 N g a w bk) {hint : D} {t : T} {v : Value} (ht : RT w (stab base S0 g bk w.heap.size) bk g 0 t v) {l : List Nat} {x : D}
    (hd : dat g hint t = some (l, x)) (l' : List Nat) (hl : ∀ s ∈ l, s ∈ l') : Rep w (stab base S0 (frzs g l') bk w.heap.size) x v := by
  unfold dat at hd
  split at hd
  · simp at hd; obtain ⟨rfl, rfl⟩ := hd
    exact frzs_slots h l' (t := .val _) rfl ht
  · simp at hd; obtain ⟨rfl, rfl⟩ := hd
    obtain ⟨o, rfl⟩ := ht
    exact .nil _ o 0 (Nat.zero_le _)
  · rename_i p
    split at hd
    · rename_i m sz es ho
      simp at hd; obtain ⟨rfl, rfl⟩ := hd
      have h' := h.frzs l'
      exact own_rep h' (p := p) (frzs_ok h l' ho (fun hm => hl _ (by simp [hm]))) (ht m sz es ho)
    · cases hd
  · cases hd
end
end Ab

namespace Ab
open Go Go.RowKit

/-! ### Operations on contents, without a world -/
def eqD : D → D → Bool
  | .int _ a, .int _ b => a == b
  | .bool a, .bool b => a == b
  | .str a, .str b => a == b
  | _, _ => false
def eqL : List D → List D → Bool
  | [], [] => true
  | x :: xs, y :: ys => eqD x y && eqL xs ys
  | _, _ => false

def okTag : Nat → D → D → Bool
  | 0, .int k _, .int k' _ => decide (k = k')
  | 1, .bool _, .bool _ => true
  | 2, .str _, .str _ => true
  | _, _, _ => false
def eqOkL : List Nat → List D → List D → Bool
  | [], [], [] => true
  | t :: ts, x :: xs, y :: ys => okTag t x y && eqOkL ts xs ys
  | _, _, _ => false

def binI (op : BinOp) (k : IntKind) (a : Int) (k' : IntKind) (b : Int) : Option (Prop × D) :=
  match op with
  | .shl => some (0 ≤ b, .int k (k.wrap (a * 2 ^ min b.toNat k.bits)))
  | .shr => some (0 ≤ b, .int k (a.fdiv (2 ^ min b.toNat k.bits)))
  | .add => some (k = k', .int k (k.wrap (a + b)))
  | .sub => some (k = k', .int k (k.wrap (a - b)))
  | .mul => some (k = k', .int k (k.wrap (a * b)))
  | .quo => some (k = k' ∧ b ≠ 0, .int k (k.wrap (a.tdiv b)))
  | .rem => some (k = k' ∧ b ≠ 0, .int k (a.tmod b))
  | .and => some (k = k', .int k (bits .and k a b))
  | .or => some (k = k', .int k (bits .or k a b))
  | .xor => some (k = k', .int k (bits .xor k a b))
  | .andNot => some (k = k', .int k (bits .andNot k a b))
  | .eql => some (k = k', .bool (a == b))
  | .neq => some (k = k', .bool (a != b))
  | .lss => some (k = k', .bool (decide (a < b)))
  | .leq => some (k = k', .bool (decide (a ≤ b)))
  | .gtr => some (k = k', .bool (decide (a > b)))
  | .geq => some (k = k', .bool (decide (a ≥ b)))

def binS (op : BinOp) (a b : List UInt8) : Option (Prop × D) :=
  match op with
  | .add => some (a.length + b.length ≤ maxLen, .str (a ++ b))
  | .eql => some (True, .bool (a == b))
  | .neq => some (True, .bool (!(a == b)))
  | .lss => some (True, .bool (Op.bytesLess a b))
  | .leq => some (True, .bool (Op.bytesLess a b || a == b))
  | .gtr => some (True, .bool (!(Op.bytesLess a b || a == b)))
  | .geq => some (True, .bool (!Op.bytesLess a b))
  | _ => none

def binT (E : Env) (op : BinOp) (xt : TypeId) : T → T → Option (Prop × D)
  | .val (.int k a), .val (.int k' b) => binI op k a k' b
  | .val (.str a), .val (.str b) => binS op a b
  | .val (.bool a), .val (.bool b) =>
    match E.tab xt, op with
    | some { key := .bool, .. }, .eql => some (True, .bool (a == b))
    | some { key := .bool, .. }, .neq => some (True, .bool (!(a == b)))
    | _, _ => none
  | .val (.agg xs), .val (.agg ys) =>
    match E.tab xt, op with
    | some { key := .struct _, eq := t :: ts, .. }, .eql => some (eqOkL (t :: ts) xs ys = true, .bool (eqL xs ys))
    | some { key := .struct _, eq := t :: ts, .. }, .neq => some (eqOkL (t :: ts) xs ys = true, .bool (!(eqL xs ys)))
    | some { key := .array .., eq := t :: ts, .. }, .eql => some (eqOkL (t :: ts) xs ys = true, .bool (eqL xs ys))
    | some { key := .array .., eq := t :: ts, .. }, .neq => some (eqOkL (t :: ts) xs ys = true, .bool (!(eqL xs ys)))
    | _, _ => none
  | _, _ => none

def unT (op : UnOp) : T → Option D
  | .val (.bool b) => match op with | .not => some (.bool !b) | _ => none
  | .val (.int k n) => match op with | .neg => some (.int k (k.wrap (-n))) | _ => none
  | _ => none

section
variable {P : Program} {w : World} {S : Nat → Nat → Prop}

theorem bits_rng [Amb] (op : BinOp) (k : IntKind) (a b : Int) : k.min ≤ bits op k a b ∧ bits op k a b ≤ k.max := wrap_rng _ _
theorem min_np (k : IntKind) : k.min ≤ 0 ∧ 0 ≤ k.max := by cases k <;> decide
theorem tmod_rng [Amb] {k : IntKind} {a b : Int} (h : k.min ≤ a ∧ a ≤ k.max) : k.min ≤ a.tmod b ∧ a.tmod b ≤ k.max := by
  have h0 := min_np k
  rcases Int.le_total 0 a with ha | ha
  · have h1 := Int.tmod_nonneg b ha
    have h2 : a.tmod b ≤ a := by
      have h3 := Int.natAbs_tmod a b
      have h4 := Nat.mod_le a.natAbs b.natAbs
      omega
    omega
  · have h1 : a.tmod b ≤ 0 := by
      have := Int.tmod_nonneg b (a := -a) (by omega)
      rw [Int.neg_tmod] at this; omega
    have h2 : a ≤ a.tmod b := by
      have h3 := Int.natAbs_tmod a b
      have h4 := Nat.mod_le a.natAbs b.natAbs
      omega
    omega
theorem fdiv_rng [Amb] {k : IntKind} {a : Int} (n : Nat) (h : k.min ≤ a ∧ a ≤ k.max) : k.min ≤ a.fdiv (2 ^ n) ∧ a.fdiv (2 ^ n) ≤ k.max := by
  have h0 := min_np k
  have hp : (0 : Int) < 2 ^ n := by
    have := Nat.two_pow_pos n
    exact_mod_cast this
  rw [Int.fdiv_eq_ediv_of_nonneg _ (by omega)]
  generalize (2 : Int) ^ n = d at *
  rcases Int.le_total 0 a with ha | ha
  · have h1 := Int.ediv_nonneg ha (Int.le_of_lt hp)
    have h2 := Int.ediv_le_self d ha
    omega
  · have h1 : a / d ≤ 0 := Int.ediv_nonpos_of_nonpos_of_neg ha hp |> fun h => h
    have h2 : a ≤ a / d := by
      rw [Int.le_ediv_iff_mul_le hp]
      have : a * (d - 1) ≤ 0 := Int.mul_nonpos_of_nonpos_of_nonneg ha (by omega)
      rw [Int.mul_sub, Int.mul_one] at this; omega
    omega

theorem binI_ok [Amb] {op : BinOp} {k k' : IntKind} {a b : Int} {c : Prop} {d : D} (ha : k.min ≤ a ∧ a ≤ k.max) (h : binI op k a k' b = some (c, d)) (hc : c) (xt : TypeId) (x y : Operand) :
    ∃ v, (∀ w, (do eqGuard op xt x y (.int k a) (.int k' b); binOp op xt (.int k a) (.int k' b) : Sem Value).run P w = .ok v w) ∧ Rep w S d v := by
  cases op <;> simp only [binI, Option.some.injEq, Prod.mk.injEq] at h <;> obtain ⟨rfl, rfl⟩ := h <;>
    (first | (obtain ⟨rfl, hb⟩ := hc) | (obtain rfl := hc) | skip) <;>
    simp [eqGuard_at_int, binOp_add, binOp_sub, binOp_mul, binOp_quo, binOp_rem, binOp_and, binOp_or, binOp_xor, binOp_andNot, binOp_eql, binOp_neq, binOp_lss, binOp_leq, binOp_gtr, binOp_geq,
      binOp_shl, binOp_shr, Op.intArith, Op.intDiv, intBits_and, intBits_or, intBits_xor, intBits_andNot, Op.shift, *]
  all_goals first
    | exact .int _ _ (wrap_rng _ _)
    | exact .int _ _ (bits_rng _ _ _ _)
    | exact .int _ _ (tmod_rng ha)
    | exact .bool _
    | skip
  · exact ⟨_, fun _ => if_neg (by omega), .int _ _ (wrap_rng _ _)⟩
  · exact ⟨_, fun _ => if_neg (by omega), .int _ _ (fdiv_rng _ ha)⟩

theorem toList_str (s : List UInt8) : (⟨s.toArray⟩ : ByteArray).toList = s := by rw [ByteArray.toList_eq]

theorem binS_ok [Amb] {op : BinOp} {a b : List UInt8} {c : Prop} {d : D} (h : binS op a b = some (c, d)) (hc : c) (xt : TypeId) (x y : Operand) :
    ∃ v, (∀ w, (do eqGuard op xt x y (.string ⟨a.toArray⟩) (.string ⟨b.toArray⟩); binOp op xt (.string ⟨a.toArray⟩) (.string ⟨b.toArray⟩) : Sem Value).run P w = .ok v w) ∧ Rep w S d v := by
  have e : ∀ op, binOp op xt (.string ⟨a.toArray⟩) (.string ⟨b.toArray⟩) = Op.stringOp op ⟨a.toArray⟩ ⟨b.toArray⟩ := by intro op; cases op <;> rfl
  have e2 : (⟨a.toArray⟩ ++ ⟨b.toArray⟩ : ByteArray) = ⟨(a ++ b).toArray⟩ := by
    apply ByteArray.ext; simp [ByteArray.data_append]
  cases op <;> simp only [binS, Option.some.injEq, Prod.mk.injEq, reduceCtorEq] at h <;> obtain ⟨rfl, rfl⟩ := h <;>
    simp only [eqGuard_at_string, pure_bind, e, Op.stringOp, toList_str, Sem.run_pure, Sem.run_ite]
  case add =>
    refine ⟨_, fun _ => if_neg ?_, ?_⟩
    rotate_left
    · rw [e2]; exact .str _ (by simpa using hc)
    · have h1 : (⟨a.toArray⟩ : ByteArray).size = a.length := rfl
      have h2 : (⟨b.toArray⟩ : ByteArray).size = b.length := rfl
      rw [h1, h2, IntKind.max_i64]
      simp only [maxLen] at hc; omega
  all_goals exact ⟨_, fun _ => rfl, .bool _⟩

theorem eqField_ok [Amb] {u v : Value} {d : Nat} {t tg : Nat} {x y : D} (hx : Rep w S x u) (hy : Rep w S y v) (ht : tagOf (P.underlying t) = tg) (hok : okTag tg x y = true) (w : World) :
    (Op.equalIn (d + 1) t u v).run P w = .ok (eqD x y) w := by
  cases hx <;> cases hy <;> (try (simp [okTag] at hok; done))
  case int.int k n h k' n' h' =>
    match tg, ht, hok with
    | 0, ht, hok =>
      simp [okTag] at hok; subst hok
      cases hu : P.underlying t with
      | none => rw [hu] at ht; simp [tagOf] at ht
      | some u => rw [hu] at ht; cases u <;> simp [tagOf] at ht; exact run_equalIn_int w d t _ _ _ _ hu
    | 1, _, hok | 2, _, hok | n + 3, _, hok => simp [okTag] at hok
  case bool.bool =>
    match tg, ht, hok with
    | 1, ht, _ =>
      cases hu : P.underlying t with
      | none => rw [hu] at ht; simp [tagOf] at ht
      | some u => rw [hu] at ht; cases u <;> simp [tagOf] at ht; exact run_equalIn_bool w d t _ _ hu
    | 0, _, hok | 2, _, hok | n + 3, _, hok => simp [okTag] at hok
  case str.str s _ s' _ =>
    match tg, ht, hok with
    | 2, ht, _ =>
      cases hu : P.underlying t with
      | none => rw [hu] at ht; simp [tagOf] at ht
      | some u => rw [hu] at ht; cases u <;> simp [tagOf] at ht; rw [run_equalIn_string w d t _ _ hu, toList_str, toList_str]; rfl
    | 0, _, hok | 1, _, hok | n + 3, _, hok => simp [okTag] at hok

theorem okTag_flat {tg : Nat} {x y : D} (h : okTag tg x y = true) : tg ≠ 3 := by
  intro e; subst e; cases x <;> cases y <;> simp [okTag] at h

theorem run_part {t : TypeId} {tg : Nat} (ht : tagOf (P.underlying t) = tg) (h3 : tg ≠ 3) (xs : Array Value) (k : Nat) (hk : k < xs.size) : (part t xs k).run P w = .ok (xs.getD k undef) w := by
  cases hu : P.underlying t with
  | none => rw [hu] at ht; simp [tagOf] at ht; exact absurd ht.symm h3
  | some u =>
    have : (isAgg t).run P w = .ok false w := by
      rw [hu] at ht
      cases u <;> simp [tagOf] at ht <;> first | (exact absurd ht.symm h3) | simp [isAgg, run_underlying hu]
    simp [part, this, hk, Array.getD_eq_getD_getElem?]

theorem eqFields_ok [Amb] {xs ys : Array Value} : ∀ (tags : List Nat) (fs : List Field) (k : Nat) (as bs : List D), fieldKeys P fs = tagKeys k tags → eqOkL tags as bs = true →
    (∀ i d, as[i]? = some d → Rep w S d (xs.getD (k + i) undef) ∧ k + i < xs.size) → (∀ i d, bs[i]? = some d → Rep w S d (ys.getD (k + i) undef) ∧ k + i < ys.size) →
    ∀ w, (Op.eqFields 9999 xs ys fs).run P w = .ok (eqL as bs) w
  | [], fs, k, as, bs, hf, hok, hx, hy => by
    match fs, hf with
    | [], _ =>
      match as, bs, hok with
      | [], [], _ => exact fun _ => rfl
    | _ :: _, hf => simp [fieldKeys, tagKeys] at hf
  | tg :: tags, fs, k, as, bs, hf, hok, hx, hy => by
    match fs, hf with
    | [], hf => simp [fieldKeys, tagKeys] at hf
    | f :: fs, hf =>
      match as, bs, hok with
      | x :: as, y :: bs, hok =>
        simp only [fieldKeys, tagKeys, List.map_cons, List.cons.injEq, Prod.mk.injEq] at hf
        obtain ⟨⟨h1, h2, h3⟩, h4⟩ := hf
        simp only [eqOkL, Bool.and_eq_true] at hok
        have hx0 := hx 0 x rfl
        have hy0 := hy 0 y rfl
        have e3 := okTag_flat hok.1
        rw [Nat.add_zero] at hx0 hy0
        have e4 := fun w => eqField_ok (P := P) (d := 9998) hx0.1 hy0.1 h2 hok.1 w
        have ih := eqFields_ok tags fs (k + 1) as bs h4 hok.2 (fun i d hi => by have := hx (i + 1) d hi; rwa [Nat.add_right_comm k 1 i]) (fun i d hi => by have := hy (i + 1) d hi; rwa [Nat.add_right_comm k 1 i])
        have hne : f.name ≠ "_" := by simpa using h3
        intro w
        rw [Op.eqFields, if_pos hne, h1]
        simp only [Sem.run_bind, run_part h2 e3 xs k hx0.2, run_part h2 e3 ys k hy0.2, Result.andThen_ok, e4, Sem.run_ite, Sem.run_pure, ih, eqL]
        cases eqD x y <;> simp

theorem eqItems_ok [Amb] {xs ys : Array Value} {e : TypeId} (he : tagOf (P.underlying e) = 0) : ∀ (m k : Nat) (as bs : List D), eqOkL (List.replicate m 0) as bs = true →
    (∀ i d, as[i]? = some d → Rep w S d (xs.getD (k + i) undef) ∧ k + i < xs.size) → (∀ i d, bs[i]? = some d → Rep w S d (ys.getD (k + i) undef) ∧ k + i < ys.size) →
    ∀ w, (Op.eqItems 9999 e 1 xs ys (List.range' k m)).run P w = .ok (eqL as bs) w
  | 0, k, as, bs, hok, hx, hy => by
    match as, bs, hok with
    | [], [], _ => exact fun _ => rfl
  | m + 1, k, as, bs, hok, hx, hy => by
    rw [List.replicate_succ] at hok
    match as, bs, hok with
    | x :: as, y :: bs, hok =>
      simp only [eqOkL, Bool.and_eq_true] at hok
      have hx0 := hx 0 x rfl
      have hy0 := hy 0 y rfl
      rw [Nat.add_zero] at hx0 hy0
      have e4 := fun w => eqField_ok (P := P) (d := 9998) hx0.1 hy0.1 he hok.1 w
      have ih := eqItems_ok he m (k + 1) as bs hok.2 (fun i d hi => by have := hx (i + 1) d hi; rwa [Nat.add_right_comm k 1 i]) (fun i d hi => by have := hy (i + 1) d hi; rwa [Nat.add_right_comm k 1 i])
      intro w
      rw [List.range'_succ, Op.eqItems]
      simp only [Nat.mul_one, Sem.run_bind, run_part he (by omega) xs k hx0.2, run_part he (by omega) ys k hy0.2, Result.andThen_ok, e4, Sem.run_ite, Sem.run_pure, ih, eqL]
      cases eqD x y <;> simp

theorem rep_agg {cs : List D} {v : Value} (h : Rep w S (.agg cs) v) : ∃ vs, v = .agg vs ∧ vs.size = cs.length ∧ ∀ i c, cs[i]? = some c → Rep w S c (vs.getD i undef) := by
  cases h with
  | agg _ vs hl hf h => exact ⟨vs, rfl, hl, h⟩

variable {E : Env}

theorem binT_ok [Amb] (hE : E.Ok) {op : BinOp} {xt : TypeId} {g : Nat → T} {bk : Pl → Option Nat} {tx ty : T} {u v : Value} (hx : RT w S bk g 0 tx u) (hy : RT w S bk g 0 ty v) {c : Prop} {d : D}
    (h : binT E op xt tx ty = some (c, d)) (hc : c) (x y : Operand) :
    ∃ z, (∀ w, (do eqGuard op xt x y u v; binOp op xt u v : Sem Value).run E.P w = .ok z w) ∧ Rep w S d z := by
  unfold binT at h
  split at h
  · cases hx with | int _ _ ha => cases hy with | int => exact binI_ok ha h hc xt x y
  · cases hx with | str _ ha => cases hy with | str => exact binS_ok h hc xt x y
  · cases hx with
    | bool a => cases hy with
      | bool b =>
        split at h
        · rename_i _ _ htab
          simp only [Option.some.injEq, Prod.mk.injEq] at h; obtain ⟨_, rfl⟩ := h
          have := (hE.2 _ _ htab).bool rfl
          exact ⟨_, fun w => by simp [eqGuard_at_bool, run_eql_bool w xt _ _ this], .bool _⟩
        · rename_i _ _ htab
          simp only [Option.some.injEq, Prod.mk.injEq] at h; obtain ⟨_, rfl⟩ := h
          have := (hE.2 _ _ htab).bool rfl
          exact ⟨_, fun w => by simp [eqGuard_at_bool, run_neq_bool w xt _ _ this], .bool _⟩
        · cases h
  · obtain ⟨xs, rfl, hx1, hx2⟩ := rep_agg hx
    obtain ⟨ys, rfl, hy1, hy2⟩ := rep_agg hy
    have key : ∀ {ti : TI} {fs : List (Nat × TypeId)}, E.tab xt = some ti → ti.key = .struct fs → ti.eq ≠ [] → ∀ {as bs : List D}, xs.size = as.length → (∀ i c, as[i]? = some c → Rep w S c (xs.getD i undef)) →
        ys.size = bs.length → (∀ i c, bs[i]? = some c → Rep w S c (ys.getD i undef)) → eqOkL ti.eq as bs = true →
        ∀ w, (eqGuard op xt x y (.agg xs) (.agg ys)).run E.P w = .ok () w ∧ (Op.equalIn 10000 xt (.agg xs) (.agg ys)).run E.P w = .ok (eqL as bs) w := by
      intro ti fs htab hk hne as bs h1 h2 h3 h4 h5 w
      have ht := hE.2 _ _ htab
      obtain ⟨e1, e2, e3⟩ := ht.eq hne _ hk
      obtain ⟨fds, e4, _⟩ := ht.struct hk
      have e5 : E.P.fieldsOf xt = fds := by simp [Program.fieldsOf, e4]
      refine ⟨run_eqGuard_agg w op xt x y xs ys e2, ?_⟩
      rw [run_equalIn_struct w 9999 xt xs ys (by rw [e5]; exact e4) e1]
      exact eqFields_ok ti.eq _ 0 as bs e3 h5 (fun i d hi => ⟨by rw [Nat.zero_add]; exact h2 i d hi, by have := (List.getElem?_eq_some_iff.1 hi).1; omega⟩)
        (fun i d hi => ⟨by rw [Nat.zero_add]; exact h4 i d hi, by have := (List.getElem?_eq_some_iff.1 hi).1; omega⟩) w
    have keyA : ∀ {ti : TI} {n e : Nat}, E.tab xt = some ti → ti.key = .array n e → ti.eq ≠ [] → ∀ {as bs : List D}, xs.size = as.length → (∀ i c, as[i]? = some c → Rep w S c (xs.getD i undef)) →
        ys.size = bs.length → (∀ i c, bs[i]? = some c → Rep w S c (ys.getD i undef)) → eqOkL ti.eq as bs = true →
        ∀ w, (eqGuard op xt x y (.agg xs) (.agg ys)).run E.P w = .ok () w ∧ (Op.equalIn 10000 xt (.agg xs) (.agg ys)).run E.P w = .ok (eqL as bs) w := by
      intro ti n e htab hk hne as bs h1 h2 h3 h4 h5 w
      have ht := hE.2 _ _ htab
      obtain ⟨e1, e2, e3, e4⟩ := ht.eqA hne _ _ hk
      obtain ⟨ds, u1, u2⟩ := ht.desc
      have u3 : E.P.underlying xt = some (.array n e) := by rw [hk] at u2; cases ds <;> simp [keyOf] at u2; rw [u1, u2.1, u2.2]
      have hinf : ∃ i, E.P.info? e = some i := by
        cases hu : E.P.underlying e with
        | none => rw [hu] at e2; simp [tagOf] at e2
        | some _ => exact info_of_underlying hu
      obtain ⟨i, hi⟩ := hinf
      refine ⟨run_eqGuard_agg w op xt x y xs ys e1, ?_⟩
      rw [run_equalIn_array w 9999 xs ys u3 hi, e3, List.range_eq_range']
      rw [e4] at h5
      exact eqItems_ok e2 n 0 as bs h5 (fun i d hi => ⟨by rw [Nat.zero_add]; exact h2 i d hi, by have := (List.getElem?_eq_some_iff.1 hi).1; omega⟩)
        (fun i d hi => ⟨by rw [Nat.zero_add]; exact h4 i d hi, by have := (List.getElem?_eq_some_iff.1 hi).1; omega⟩) w
    split at h
    · rename_i htab
      simp only [Option.some.injEq, Prod.mk.injEq] at h; obtain ⟨rfl, rfl⟩ := h
      have key := key htab rfl (by simp) hx1 hx2 hy1 hy2 hc
      exact ⟨_, fun w => by simp only [Sem.run_bind, (key w).1, Result.andThen_ok, run_eql_struct, (key w).2], .bool _⟩
    · rename_i htab
      simp only [Option.some.injEq, Prod.mk.injEq] at h; obtain ⟨rfl, rfl⟩ := h
      have key := key htab rfl (by simp) hx1 hx2 hy1 hy2 hc
      exact ⟨_, fun w => by simp only [Sem.run_bind, (key w).1, Result.andThen_ok, run_neq_struct, (key w).2], .bool _⟩
    · rename_i htab
      simp only [Option.some.injEq, Prod.mk.injEq] at h; obtain ⟨rfl, rfl⟩ := h
      have key := keyA htab rfl (by simp) hx1 hx2 hy1 hy2 hc
      exact ⟨_, fun w => by simp only [Sem.run_bind, (key w).1, Result.andThen_ok, run_eql_struct, (key w).2], .bool _⟩
    · rename_i htab
      simp only [Option.some.injEq, Prod.mk.injEq] at h; obtain ⟨rfl, rfl⟩ := h
      have key := keyA htab rfl (by simp) hx1 hx2 hy1 hy2 hc
      exact ⟨_, fun w => by simp only [Sem.run_bind, (key w).1, Result.andThen_ok, run_neq_struct, (key w).2], .bool _⟩
    · cases h
  · cases h

theorem unT_ok [Amb] {op : UnOp} {g : Nat → T} {bk : Pl → Option Nat} {t : T} {v : Value} (ht : RT w S bk g 0 t v) {d : D} (h : unT op t = some d) :
    ∃ z, (∀ w, (Op.unary op v).run P w = .ok z w) ∧ Rep w S d z := by
  unfold unT at h
  split at h
  · cases ht; split at h <;> simp at h; subst h; exact ⟨_, fun _ => rfl, .bool _⟩
  · cases ht; split at h <;> simp at h; subst h; rename_i k n _ _; exact ⟨.int k (k.wrap (-n)), fun _ => by simp [Op.unary, Op.intArith], .int _ _ (wrap_rng _ _)⟩
  · cases h
end
end Ab

namespace Ab
open Go Go.RowKit

def C.dat : C → D
  | .d x => x
  | .own _ z es => .slice z es
def C.mut : C → Bool
  | .own m _ _ => m
  | _ => false

/-- The address of a field. -/
def fldA (E : Env) (g : Nat → T) (s f : Nat) (t : T) : Option (Prop × T) :=
  match E.tab s with
  | some { key := .struct fs, .. } =>
    match fs[f]? with
    | some (off, ft) =>
      match t with
      | .ptr s' o => match (g s').box? with | some _ => some (E.szOf ft ≠ 0, .ptr s' (o + off)) | none => none
      | .optr p i o => match (g p.1).ownAt p.2 with | some _ => some (E.szOf ft ≠ 0, .optr p i (o + off)) | none => none
      | .val (.ref cs) => some (E.szOf ft ≠ 0, .val (.ref (cs.drop off)))
      | _ => none
    | none => none
  | _ => none

/-- What a load gives: the condition, what is frozen first, the content. -/
def ldT (E : Env) (g : Nat → T) (ty : TypeId) (t : T) : Option (Prop × List Nat × T) :=
  match E.tab ty with
  | none => none
  | some ti =>
    match t with
    | .ptr s off =>
      match (g s).box? with
      | some cs =>
        if ti.key.agg then some (off + ti.size ≤ cs.length, if cs.any C.mut then [s] else [], .val (.agg (((cs.drop off).take ti.size).map C.dat)))
        else match cs.getD off (.d ti.zd) with
          | .d x => some (off < cs.length, [], .val x)
          | .own _ _ _ => some (off < cs.length, [], .alias (s, off + 1))
      | none => none
    | .val (.ref cs) =>
      if ti.key.agg then some (ti.size ≤ cs.length, [], .val (.agg (cs.take ti.size)))
      else some (0 < cs.length, [], .val (cs.headD ti.zd))
    | .optr p i off =>
      match (g p.1).ownAt p.2 with
      | some (_, z, es) =>
        if ti.key.agg then some (i < es.length ∧ off + ti.size ≤ z.cells.length, [], .val (.agg (((es.getD i z).cells.drop off).take ti.size)))
        else some (i < es.length ∧ off < z.cells.length, [], .val ((es.getD i z).cells.getD off ti.zd))
      | none => none
    | _ => none

/-- The address of an element. -/
def idxA (E : Env) (g : Nat → T) (t : TypeId) (tx ti : T) : Option (Prop × T) :=
  match ti with
  | .val (.int _ i) =>
    match E.tab t with
    | some { key := .slice e, .. } =>
      match tx with
      | .val (.slice z es) => some (z.cells.length = E.szOf e ∧ 0 < z.cells.length ∧ 0 ≤ i ∧ i < es.length, .val (.ref (es.getD i.toNat z).cells))
      | .alias p =>
        match (g p.1).ownAt p.2 with
        | some (true, z, es) => some (z.cells.length = E.szOf e ∧ 0 < z.cells.length ∧ 0 ≤ i ∧ i < es.length, .optr p i.toNat 0)
        | some (false, z, es) => some (z.cells.length = E.szOf e ∧ 0 < z.cells.length ∧ 0 ≤ i ∧ i < es.length, .val (.ref (es.getD i.toNat z).cells))
        | none => none
      | _ => none
    | some { key := .array n e, .. } =>
      match tx with
      | .ptr s off => match (g s).box? with | some _ => some (0 < E.szOf e ∧ 0 ≤ i ∧ i < n, .ptr s (off + i.toNat * E.szOf e)) | none => none
      | .val (.ref cs) => some (0 < E.szOf e ∧ 0 ≤ i ∧ i < n, .val (.ref (cs.drop (i.toNat * E.szOf e))))
      | _ => none
    | _ => none
  | _ => none

theorem szOf_pos {E : Env} {t : TypeId} (h : E.szOf t ≠ 0) : ∃ ti, E.tab t = some ti ∧ ti.size = E.szOf t := by
  unfold Env.szOf at h ⊢
  cases ht : E.tab t with
  | none => rw [ht] at h; exact absurd rfl h
  | some ti => exact ⟨ti, rfl, rfl⟩

theorem add_at (b o n : Nat) : (at' b o).add n = at' b (o + n) := Addr.add_lit b o n

theorem Rep.ref_drop {w : World} {S : Nat → Nat → Prop} {cs : List D} {v : Value} (h : Rep w S (.ref cs) v) (n : Nat) :
    ∃ b o, v = .pointer (some (at' b o)) ∧ Rep w S (.ref (cs.drop n)) (.pointer (some (at' b (o + n)))) := by
  cases h with
  | ref _ b off u hf hc hr =>
    refine ⟨b, off, rfl, .ref _ b (off + n) (fun j => u (n + j)) (fun c hc' => hf c (List.mem_of_mem_drop hc')) (fun j c hj => ?_) (fun j c hj => ?_)⟩
    · rw [List.getElem?_drop] at hj
      have := hc _ _ hj
      rwa [← Nat.add_assoc] at this
    · rw [List.getElem?_drop] at hj
      exact hr _ _ hj

section
variable {base : Nat} {S0 : Nat → Nat → Prop} {w0 : World} {N : Nat} {g : Nat → T} {a : Act} {w : World} {bk : Pl → Option Nat} {E : Env}

theorem run_fieldAt_pt [Amb] (hE : E.Ok) {s f off ft : Nat} {ti : TI} {fs : List (Nat × TypeId)} (htab : E.tab s = some ti) (hk : ti.key = .struct fs) (hf : fs[f]? = some (off, ft)) (hsz : E.szOf ft ≠ 0) (b o : Nat) (w : World) :
    (Instr.fieldAt s (.pointer (some (at' b o))) f).run E.P w = .ok (.pointer (some (at' b (o + off)))) w := by
  obtain ⟨fds, h1, h2⟩ := (hE.2 _ _ htab).struct hk
  rw [h2, List.getElem?_map] at hf
  cases hfd : fds.toList[f]? with
  | none => rw [hfd] at hf; simp at hf
  | some fd =>
    rw [hfd] at hf; simp only [Option.map_some, Option.some.injEq, Prod.mk.injEq] at hf
    obtain ⟨rfl, rfl⟩ := hf
    obtain ⟨ti', h3, h4⟩ := szOf_pos hsz
    have hfd' : fds[f]? = some fd := by simpa using hfd
    have h5 := (hE.2 _ _ h3).run_sizeOf w
    have h6 : ti'.size ≠ 0 := by rw [h4]; exact hsz
    simp [Instr.fieldAt, run_underlying h1, hfd', Instr.sureAddr, fieldPlace, h5, h6, add_at]

theorem fldA_ok [Amb] (hE : E.Ok) {S : Nat → Nat → Prop} {s f : Nat} {t : T} {v : Value} (ht : RT w S bk g 0 t v) {c : Prop} {t' : T} (h : fldA E g s f t = some (c, t')) (hc : c) :
    ∃ z, (∀ w, (Instr.fieldAt s v f).run E.P w = .ok z w) ∧ RT w S bk g 0 t' z ∧ t'.plain = true := by
  unfold fldA at h
  split at h
  · rename_i ti fs sz0 by0 z0 zc0 eq0 htab
    split at h
    · rename_i off ft hf
      split at h
      · rename_i s' o
        split at h
        · rename_i cs hbx
          simp only [Option.some.injEq, Prod.mk.injEq] at h; obtain ⟨rfl, rfl⟩ := h
          obtain ⟨b, h1, h2⟩ := ht cs hbx
          subst h2
          exact ⟨_, run_fieldAt_pt hE htab rfl hf hc b o, fun cs' hb' => ⟨b, h1, rfl⟩, rfl⟩
        · cases h
      · rename_i p i o
        split at h
        · rename_i x ho
          obtain ⟨m, z, es⟩ := x
          simp only [Option.some.injEq, Prod.mk.injEq] at h; obtain ⟨rfl, rfl⟩ := h
          obtain ⟨b, h1, h2⟩ := ht m z es ho
          subst h2
          refine ⟨_, run_fieldAt_pt hE htab rfl hf hc b _, fun m' z' es' ho' => ⟨b, h1, ?_⟩, rfl⟩
          rw [ho] at ho'; simp only [Option.some.injEq, Prod.mk.injEq] at ho'; obtain ⟨_, rfl, _⟩ := ho'
          rw [Nat.add_assoc]
        · cases h
      · rename_i cs
        simp only [Option.some.injEq, Prod.mk.injEq] at h; obtain ⟨rfl, rfl⟩ := h
        obtain ⟨b, o, rfl, h2⟩ := Rep.ref_drop ht off
        exact ⟨_, run_fieldAt_pt hE htab rfl hf hc b o, h2, rfl⟩
      · cases h
    · cases h
  · cases h

theorem run_load_agg [Amb] (hE : E.Ok) {ty : TypeId} {ti : TI} (htab : E.tab ty = some ti) (hagg : ti.key.agg = true) (b o : Nat) (w : World) (f : Nat → Value) (hf : ∀ j, j < ti.size → w.cell? (at' b (o + j)) = some (f j)) :
    (Instr.loadAt ty (.pointer (some (at' b o)))).run E.P w = .ok (.agg ((List.range ti.size).map f).toArray) w := by
  have h1 := (hE.2 _ _ htab).run_isAgg w
  have h2 := (hE.2 _ _ htab).run_sizeOf w
  rw [hagg] at h1
  have h3 := run_loadCells_list (P := E.P) w (at' b o) ((List.range ti.size).map f) (fun j v hj => by
    rw [List.getElem?_map] at hj
    by_cases hjs : j < ti.size
    · rw [List.getElem?_range hjs] at hj; simp at hj; subst hj; rw [add_at]; exact hf j hjs
    · rw [List.getElem?_eq_none (by simpa using hjs)] at hj; cases hj)
  simp only [List.length_map, List.length_range] at h3
  simp [Instr.loadAt, Instr.sureAddr, loadVar, h1, h2, h3]

theorem run_load_one [Amb] (hE : E.Ok) {ty : TypeId} {ti : TI} (htab : E.tab ty = some ti) (hagg : ti.key.agg = false) (b o : Nat) (w : World) (v : Value) (hv : w.cell? (at' b o) = some v) :
    (Instr.loadAt ty (.pointer (some (at' b o)))).run E.P w = .ok v w := by
  have h1 := (hE.2 _ _ htab).run_isAgg w
  rw [hagg] at h1
  simp [Instr.loadAt, Instr.sureAddr, loadVar, h1, run_load, hv]

theorem cell_arr {b o : Nat} {arr : Array Value} {ty : TypeId} (h : w.heap[b]? = some (.cells arr ty (0, 0))) (ho : o < arr.size) : w.cell? (at' b o) = some (arr.getD o undef) := by
  rw [cell_of_row w b o arr ty (0, 0) h, Array.getD_eq_getD_getElem?]
  simp [ho]

theorem cell_hc {b o : Nat} {arr : Array Value} {ty : TypeId} (h : HC w b arr ty) (ho : o < arr.size) : w.cell? (at' b o) = some (arr.getD o undef) := by
  rw [h.cell, Array.getD_eq_getD_getElem?]
  simp [ho]

theorem getD_range (n i : Nat) (f : Nat → Value) (hi : i < n) : (((List.range n).map f).toArray).getD i undef = f i := by
  simp [hi]

theorem RC.dat_frozen [Amb] (h : RB base S0 w0 N g a w bk) {s i : Nat} {cs : List C} {c : C} {v : Value} (hg : (g s).box? = some cs) (hm : cs.any C.mut = false) (hi : cs[i]? = some c)
    (hc : RC w (stab base S0 g bk w.heap.size) (bk (s, i + 1)) c v) : Rep w (stab base S0 g bk w.heap.size) c.dat v ∧ c.dat.flat = true := by
  cases c with
  | d x => exact hc
  | own m z es =>
    have hmm : m = false := by
      rw [List.any_eq_false] at hm
      have := hm _ (List.mem_of_getElem? hi)
      simpa [C.mut] using this
    subst hmm
    have hbx : g s = .box cs := by cases hgs : g s <;> rw [hgs] at hg <;> simp [T.box?] at hg; rw [hg]
    exact ⟨own_rep h (p := (s, i + 1)) (by show (g s).ownAt (i + 1) = _; rw [hbx]; simp [T.ownAt, hi, C.own?]) hc, rfl⟩

theorem box_eq {g : Nat → T} {s : Nat} {cs : List C} (h : (g s).box? = some cs) : g s = .box cs := by
  cases hgs : g s <;> rw [hgs] at h <;> simp [T.box?] at h; rw [h]

theorem gr_cell [Amb] {w w' : World} (h : Below w.heap.size w w') {b o : Nat} {v : Value} (hc : w.cell? (at' b o) = some v) : w'.cell? (at' b o) = some v := by
  by_cases hb : b < w.heap.size
  · rw [below_cell h hb]; exact hc
  · simp [World.cell?, at', Array.getElem?_eq_none (Nat.le_of_not_lt hb)] at hc

theorem ldT_ok [Amb] (hE : E.Ok) (h : RB base S0 w0 N g a w bk) {ty : TypeId} {t : T} {v : Value} (ht : RT w (stab base S0 g bk w.heap.size) bk g 0 t v) {c : Prop} {l : List Nat} {t' : T}
    (hl : ldT E g ty t = some (c, l, t')) (hc : c) :
    ∃ z, (∀ w', Below w.heap.size w w' → (Instr.loadAt ty v).run E.P w' = .ok z w') ∧ RT w (stab base S0 (frzs g l) bk w.heap.size) bk (frzs g l) 0 t' z ∧ t'.plain = true := by
  unfold ldT at hl
  split at hl
  · cases hl
  rename_i ti htab
  split at hl
  · -- a local variable
    rename_i s off
    split at hl
    · rename_i cs hbx
      obtain ⟨b, h1, rfl⟩ := ht cs hbx
      obtain ⟨b', arr, ty', h2, h3, h4, h5⟩ := h.box s cs hbx
      obtain rfl : b = b' := by rw [h1] at h2; simpa using h2
      by_cases hagg : ti.key.agg = true
      · rw [if_pos hagg] at hl
        simp only [Option.some.injEq, Prod.mk.injEq] at hl; obtain ⟨rfl, rfl, rfl⟩ := hl
        refine ⟨_, fun w' hw' => run_load_agg hE htab hagg b off w' (fun j => arr.getD (off + j) undef) (fun j hj => gr_cell hw' (cell_arr h3 (by omega))), ?_, rfl⟩
        have key : ∀ (g' : Nat → T) (cs' : List C), RB base S0 w0 N g' a w bk → (g' s).box? = some cs' → cs'.any C.mut = false → cs'.map C.dat = cs.map C.dat →
            RT w (stab base S0 g' bk w.heap.size) bk g' 0 (.val (.agg (((cs.drop off).take ti.size).map C.dat))) (.agg ((List.range ti.size).map fun j => arr.getD (off + j) undef).toArray) := by
          intro g' cs' hg' hb' hm' hd'
          obtain ⟨b2, arr2, ty2, k1, k2, k3, k4⟩ := hg'.box s cs' hb'
          obtain rfl : b = b2 := by rw [h1] at k1; simpa using k1
          rw [h3] at k2
          obtain ⟨rfl, rfl⟩ : arr = arr2 ∧ ty' = ty2 := by simpa using k2
          have hcell : ∀ i x, (((cs.drop off).take ti.size).map C.dat)[i]? = some x → i < ti.size ∧ Rep w (stab base S0 g' bk w.heap.size) x (arr.getD (off + i) undef) ∧ x.flat = true := by
            intro i x hi
            rw [List.map_take, List.map_drop, ← hd'] at hi
            rw [List.getElem?_take] at hi
            split at hi
            · rename_i hlt
              rw [List.getElem?_drop, List.getElem?_map] at hi
              cases hci : cs'[off + i]? with
              | none => rw [hci] at hi; cases hi
              | some c0 =>
                rw [hci] at hi; simp at hi; subst hi
                exact ⟨hlt, RC.dat_frozen hg' hb' hm' hci (k4 _ _ hci)⟩
            · cases hi
          refine .agg _ _ (by simp; omega) (fun x hx => ?_) (fun i x hi => ?_)
          · obtain ⟨i, hi⟩ := List.getElem?_of_mem hx
            exact (hcell i x hi).2.2
          · rw [getD_range _ _ _ (hcell i x hi).1]
            exact (hcell i x hi).2.1
        by_cases hm : cs.any C.mut = true
        · rw [if_pos hm]
          refine key _ (cs.map C.frz) (h.frz s) (by show (upd g s (g s).frz s).box? = _; rw [upd_same, box_eq hbx]; rfl) ?_ ?_
          · rw [List.any_eq_false]
            intro c hc'
            obtain ⟨c0, _, rfl⟩ := List.mem_map.1 hc'
            cases c0 <;> simp [C.frz, C.mut]
          · rw [List.map_map]
            apply List.map_congr_left
            intro c _
            cases c <;> rfl
        · rw [if_neg hm]
          exact key g cs h hbx (by simpa using hm) rfl
      · rw [if_neg hagg] at hl
        have hagg' : ti.key.agg = false := by simpa using hagg
        have hgd : ∀ c0, cs.getD off (.d ti.zd) = c0 → off < cs.length → cs[off]? = some c0 := fun c0 he hlt => by
          rw [← he, List.getD_eq_getElem?_getD]; simp [hlt]
        split at hl
        · rename_i x hx
          simp only [Option.some.injEq, Prod.mk.injEq] at hl; obtain ⟨rfl, rfl, rfl⟩ := hl
          exact ⟨_, fun w' hw' => run_load_one hE htab hagg' b off w' _ (gr_cell hw' (cell_arr h3 (by omega))), (h5 _ _ (hgd _ hx hc)).1, rfl⟩
        · rename_i m z es hx
          simp only [Option.some.injEq, Prod.mk.injEq] at hl; obtain ⟨rfl, rfl, rfl⟩ := hl
          refine ⟨_, fun w' hw' => run_load_one hE htab hagg' b off w' _ (gr_cell hw' (cell_arr h3 (by omega))), fun m' z' es' ho => ?_, rfl⟩
          have h6 := h5 _ _ (hgd _ hx hc)
          simp only [frzs, box_eq hbx, T.ownAt, hgd _ hx hc, C.own?, Option.bind_some, Option.some.injEq, Prod.mk.injEq] at ho
          obtain ⟨_, rfl, rfl⟩ := ho
          exact h6
    · cases hl
  · -- cells that stay
    rename_i cs
    cases ht with
    | ref _ b off u hf hcc hr =>
      by_cases hagg : ti.key.agg = true
      · rw [if_pos hagg] at hl
        simp only [Option.some.injEq, Prod.mk.injEq] at hl; obtain ⟨rfl, rfl, rfl⟩ := hl
        have hex : ∀ j, j < ti.size → ∃ c0, cs[j]? = some c0 := fun j hj => ⟨cs[j]'(by omega), by simp [show j < cs.length by omega]⟩
        refine ⟨_, fun w' hw' => run_load_agg hE htab hagg b off w' u (fun j hj => by obtain ⟨c0, h0⟩ := hex j hj; exact gr_cell hw' (hcc j c0 h0).2), ?_, rfl⟩
        refine .agg _ _ (by simp; omega) (fun x hx => hf x (List.mem_of_mem_take hx)) (fun i x hi => ?_)
        rw [List.getElem?_take] at hi
        split at hi
        · rename_i hlt; rw [getD_range _ _ _ hlt]; exact hr i x hi
        · cases hi
      · rw [if_neg hagg] at hl
        simp only [Option.some.injEq, Prod.mk.injEq] at hl; obtain ⟨rfl, rfl, rfl⟩ := hl
        match cs, hc, hcc, hr with
        | x :: cs, _, hcc, hr => exact ⟨_, fun w' hw' => run_load_one hE htab (by simpa using hagg) b off w' _ (gr_cell hw' (hcc 0 x rfl).2), hr 0 x rfl, rfl⟩
  · -- a row of the call's own
    rename_i p i off
    split at hl
    · rename_i m z es ho
      obtain ⟨b, h1, rfl⟩ := ht m z es ho
      obtain ⟨k1, arr, ty', k2, k3, k4⟩ := h.own p m z es ho b h1
      have hgi : i < es.length → es[i]? = some (es.getD i z) := fun hi => by rw [List.getD_eq_getElem?_getD]; simp [hi]
      have hpos : ∀ j, i < es.length → j < z.cells.length → i * z.cells.length + j < arr.size := fun j hi hj => by
        have : (i + 1) * z.cells.length ≤ es.length * z.cells.length := Nat.mul_le_mul_right _ hi
        rw [Nat.add_mul] at this; omega
      by_cases hagg : ti.key.agg = true
      · rw [if_pos hagg] at hl
        simp only [Option.some.injEq, Prod.mk.injEq] at hl; obtain ⟨rfl, rfl, rfl⟩ := hl
        obtain ⟨hi, hz⟩ := hc
        have hmem := List.mem_of_getElem? (hgi hi)
        have hlen := (k1 _ hmem).1
        refine ⟨_, fun w' hw' => run_load_agg hE htab hagg b _ w' (fun j => arr.getD (i * z.cells.length + (off + j)) undef) (fun j hj => by rw [Nat.add_assoc]; exact gr_cell hw' (cell_hc k2 (hpos _ hi (by omega)))), ?_, rfl⟩
        refine .agg _ _ (by simp only [List.size_toArray, List.length_map, List.length_range, List.length_take, List.length_drop]; rw [hlen]; omega) (fun x hx => (k1 _ hmem).2 x (List.mem_of_mem_drop (List.mem_of_mem_take hx))) (fun j x hj => ?_)
        rw [List.getElem?_take] at hj
        split at hj
        · rename_i hlt
          rw [List.getElem?_drop] at hj
          rw [getD_range _ _ _ hlt]
          exact k4 i _ _ _ (hgi hi) hj
        · cases hj
      · rw [if_neg hagg] at hl
        simp only [Option.some.injEq, Prod.mk.injEq] at hl; obtain ⟨rfl, rfl, rfl⟩ := hl
        obtain ⟨hi, hz⟩ := hc
        have hlen := (k1 _ (List.mem_of_getElem? (hgi hi))).1
        have hj : (es.getD i z).cells[off]? = some ((es.getD i z).cells.getD off ti.zd) := by
          rw [List.getD_eq_getElem?_getD (l := (es.getD i z).cells), List.getElem?_eq_getElem (show off < (es.getD i z).cells.length by omega)]; rfl
        exact ⟨_, fun w' hw' => run_load_one hE htab (by simpa using hagg) b _ w' _ (gr_cell hw' (cell_hc k2 (hpos _ hi hz))), k4 i _ _ _ (hgi hi) hj, rfl⟩
    · cases hl
  · cases hl
end
end Ab

namespace Ab
open Go Go.RowKit

section
variable {base : Nat} {S0 : Nat → Nat → Prop} {w0 : World} {N : Nat} {g : Nat → T} {a : Act} {w : World} {bk : Pl → Option Nat} {E : Env}

theorem run_indexAt_slc [Amb] (hE : E.Ok) {t e : Nat} {ti : TI} (htab : E.tab t = some ti) (hk : ti.key = .slice e) (he : 0 < E.szOf e) (b o len cap : Nat) (k : IntKind) (i : Int) (h0 : 0 ≤ i) (h1 : i < len) (w : World) :
    (Instr.indexAt t (.slice (some (at' b o)) len cap) (.int k i)).run E.P w = .ok (.pointer (some (at' b (o + i.toNat * E.szOf e)))) w := by
  obtain ⟨ti', h3, h4⟩ := szOf_pos (Nat.ne_of_gt he)
  have h5 := (hE.2 _ _ h3).run_sizeOf w
  simp [Instr.indexAt, asIntOf, run_underlying ((hE.2 _ _ htab).slice hk), h0, h1, h5, h4, add_at]

theorem run_indexAt_arr [Amb] (hE : E.Ok) {t n e : Nat} {ti : TI} (htab : E.tab t = some ti) (hk : ti.key = .array n e) (he : 0 < E.szOf e) (b o : Nat) (k : IntKind) (i : Int) (h0 : 0 ≤ i) (h1 : i < n) (w : World) :
    (Instr.indexAt t (.pointer (some (at' b o))) (.int k i)).run E.P w = .ok (.pointer (some (at' b (o + i.toNat * E.szOf e)))) w := by
  obtain ⟨ti', h3, h4⟩ := szOf_pos (Nat.ne_of_gt he)
  have h5 := (hE.2 _ _ h3).run_sizeOf w
  simp [Instr.indexAt, asIntOf, run_underlying ((hE.2 _ _ htab).array hk), Instr.sureAddr, h0, h1, h5, h4, add_at]

/-- An element of a slice that stays, as the cells behind an address. -/
theorem Rep.elem {S : Nat → Nat → Prop} {z : D} {es : List D} {v : Value} (h : Rep w S (.slice z es) v) (i : Nat) (hi : i < es.length) :
    ∃ b o cap, v = .slice (some (at' b o)) es.length cap ∧ Rep w S (.ref (es.getD i z).cells) (.pointer (some (at' b (o + i * z.cells.length)))) := by
  cases h with
  | nil => simp at hi
  | slice _ sz hz _ b off cap u hlen hcap hsz hc hr =>
    have hgi : es[i]? = some (es.getD i z) := by rw [List.getD_eq_getElem?_getD, List.getElem?_eq_getElem hi]; rfl
    refine ⟨b, off, cap, rfl, ?_⟩
    rw [← hz]
    exact .ref _ b _ (u i) ((hsz _ (List.mem_of_getElem? hgi)).2) (fun j c hj => hc i _ j c hgi hj) (fun j c hj => hr i _ j c hgi hj)

theorem idxA_ok [Amb] (hE : E.Ok) (h : RB base S0 w0 N g a w bk) {t : Nat} {tx ti : T} {v u : Value} (hx : RT w (stab base S0 g bk w.heap.size) bk g 0 tx v) (hi : RT w (stab base S0 g bk w.heap.size) bk g 0 ti u)
    {c : Prop} {t' : T} (he : idxA E g t tx ti = some (c, t')) (hc : c) :
    ∃ z, (∀ w, (Instr.indexAt t v u).run E.P w = .ok z w) ∧ RT w (stab base S0 g bk w.heap.size) bk g 0 t' z ∧ t'.plain = true := by
  unfold idxA at he
  split at he
  · rename_i k i0
    cases hi with | int _ _ hrng =>
    split at he
    · rename_i ti e _ _ _ _ _ htab
      have slc : ∀ {z : D} {es : List D} {c : Prop} {t' : T}, Rep w (stab base S0 g bk w.heap.size) (.slice z es) v →
          some (z.cells.length = E.szOf e ∧ 0 < z.cells.length ∧ 0 ≤ i0 ∧ i0 < es.length, T.val (.ref (es.getD i0.toNat z).cells)) = some (c, t') → c →
          ∃ z, (∀ w, (Instr.indexAt t v (.int k i0)).run E.P w = .ok z w) ∧ RT w (stab base S0 g bk w.heap.size) bk g 0 t' z ∧ t'.plain = true := by
        intro z es c t' hr h1 h2
        simp only [Option.some.injEq, Prod.mk.injEq] at h1; obtain ⟨rfl, rfl⟩ := h1
        obtain ⟨e1, e2, e3, e4⟩ := h2
        obtain ⟨b, o, cap, rfl, hr'⟩ := hr.elem i0.toNat (by omega)
        rw [e1] at hr' e2
        exact ⟨_, run_indexAt_slc hE htab rfl e2 b o _ cap k i0 e3 e4, hr', rfl⟩
      split at he
      · exact slc hx he hc
      · rename_i p
        split at he
        · rename_i z es ho
          simp only [Option.some.injEq, Prod.mk.injEq] at he; obtain ⟨rfl, rfl⟩ := he
          obtain ⟨e1, e2, e3, e4⟩ := hc
          rcases hx true z es ho with ⟨hn, _⟩ | ⟨b, cap, arr, ty, hob, rfl, _⟩
          · omega
          · rw [e1] at e2
            refine ⟨_, run_indexAt_slc hE htab rfl e2 b 0 _ cap k i0 e3 e4, fun m z' es' ho' => ⟨b, hob, ?_⟩, rfl⟩
            rw [ho] at ho'; simp only [Option.some.injEq, Prod.mk.injEq] at ho'; obtain ⟨_, rfl, _⟩ := ho'
            rw [e1, Nat.zero_add, Nat.add_zero]
        · rename_i z es ho
          exact slc (own_rep h ho (hx false z es ho)) he hc
        · cases he
      · cases he
    · rename_i ti n e _ _ _ _ _ htab
      split at he
      · rename_i s off
        split at he
        · rename_i cs hbx
          simp only [Option.some.injEq, Prod.mk.injEq] at he; obtain ⟨rfl, rfl⟩ := he
          obtain ⟨b, h1, rfl⟩ := hx cs hbx
          exact ⟨_, run_indexAt_arr hE htab rfl hc.1 b off k i0 hc.2.1 hc.2.2, fun cs' _ => ⟨b, h1, rfl⟩, rfl⟩
        · cases he
      · rename_i cs
        simp only [Option.some.injEq, Prod.mk.injEq] at he; obtain ⟨rfl, rfl⟩ := he
        obtain ⟨b, o, rfl, h2⟩ := Rep.ref_drop hx (i0.toNat * E.szOf e)
        exact ⟨_, run_indexAt_arr hE htab rfl hc.1 b o k i0 hc.2.1 hc.2.2, h2, rfl⟩
      · cases he
    · cases he
  · cases he

/-! ### Length, minimum, maximum -/
def lenT (E : Env) (g : Nat → T) (t : TypeId) : T → Option D
  | .val (.str s) => match E.tab t with | some { key := .string, .. } => some (.int .i64 s.length) | _ => none
  | .val (.slice _ es) => match E.tab t with | some { key := .slice _, .. } => some (.int .i64 es.length) | _ => none
  | .nils => match E.tab t with | some { key := .slice _, .. } => some (.int .i64 0) | _ => none
  | .alias p => match E.tab t, (g p.1).ownAt p.2 with | some { key := .slice _, .. }, some (_, _, es) => some (.int .i64 es.length) | _, _ => none
  | _ => match E.tab t with | some { key := .array n _, .. } => some (.int .i64 n) | _ => none

theorem i64_nat {n : Nat} (h : n ≤ maxLen) : IntKind.i64.min ≤ (n : Int) ∧ (n : Int) ≤ IntKind.i64.max := by
  simp only [maxLen] at h
  rw [IntKind.max_i64, show IntKind.i64.min = -9223372036854775808 from by decide]; omega

theorem Rep.slice_len {S : Nat → Nat → Prop} {z : D} {es : List D} {v : Value} (h : Rep w S (.slice z es) v) : ∃ o cap, v = .slice o es.length cap ∧ es.length ≤ maxLen ∧ es.length ≤ cap := by
  cases h with
  | nil _ o cap h => exact ⟨o, cap, rfl, by simp, by simp⟩
  | slice _ sz hz _ b off cap u hlen hcap => exact ⟨_, cap, rfl, Nat.le_trans hlen hcap, hlen⟩

theorem Hdr.len {ob : Option Nat} {sz n : Nat} {v : Value} (h : Hdr w ob sz n v) : ∃ o cap, v = .slice o n cap ∧ n ≤ maxLen ∧ n ≤ cap := by
  rcases h with ⟨rfl, o, rfl⟩ | ⟨b, cap, arr, ty, _, rfl, _, _, h1, h2⟩
  · exact ⟨o, 0, rfl, by simp [maxLen], by simp⟩
  · exact ⟨_, cap, rfl, Nat.le_trans h1 h2, h1⟩

theorem lenT_ok [Amb] (hE : E.Ok) {S : Nat → Nat → Prop} {t ty : TypeId} {tx : T} {v : Value} (hx : RT w S bk g 0 tx v) {d : D} (h : lenT E g t tx = some d) (harr : ∀ n e, (∃ ti, E.tab t = some ti ∧ ti.key = .array n e) → n ≤ maxLen) :
    ∃ z, (∀ w, (Builtin.len_ #[t] ty #[v]).run E.P w = .ok z w) ∧ Rep w S d z := by
  have arr : ∀ {x : T} {d : D}, (match E.tab t with | some { key := .array n _, .. } => some (D.int .i64 n) | _ => none) = some d →
      ∃ z, (∀ w, (Builtin.len_ #[t] ty #[v]).run E.P w = .ok z w) ∧ Rep w S d z := by
    intro x d h
    split at h
    · rename_i _ n e _ _ _ _ _ htab
      simp at h; subst h
      have := (hE.2 _ _ htab).array rfl
      exact ⟨_, fun w => by simp [Builtin.len_, run_underlying this]; rfl, .int _ _ (i64_nat (harr n e ⟨_, htab, rfl⟩))⟩
    · cases h
  unfold lenT at h
  split at h
  · cases hx with | str s hs =>
    split at h
    · rename_i htab
      simp at h; subst h
      have := (hE.2 _ _ htab).string rfl
      exact ⟨_, fun w => by simp [Builtin.len_, run_underlying this, goInt] <;> rfl, .int _ _ (i64_nat hs)⟩
    · cases h
  · split at h
    · rename_i htab
      simp at h; subst h
      have := (hE.2 _ _ htab).slice rfl
      obtain ⟨o, cap, rfl, h2, _⟩ := Rep.slice_len hx
      exact ⟨.int .i64 _, fun w => by simp [Builtin.len_, run_underlying this, goInt], .int _ _ (i64_nat h2)⟩
    · cases h
  · split at h
    · rename_i htab
      simp at h; subst h
      have := (hE.2 _ _ htab).slice rfl
      obtain ⟨o, rfl⟩ := hx
      exact ⟨.int .i64 _, fun w => by simp [Builtin.len_, run_underlying this, goInt], .int _ _ (i64_nat (n := 0) (Nat.zero_le _))⟩
    · cases h
  · split at h
    · rename_i htab ho
      simp at h; subst h
      have := (hE.2 _ _ htab).slice rfl
      obtain ⟨o, cap, rfl, h2, _⟩ := (hx _ _ _ ho).len
      exact ⟨.int .i64 _, fun w => by simp [Builtin.len_, run_underlying this, goInt], .int _ _ (i64_nat h2)⟩
    · cases h
  · exact arr (x := .junk) h

def minT : T → T → Option (Prop × D)
  | .val (.int k a), .val (.int k' b) => some (k = k', .int k (if b < a then b else a))
  | _, _ => none
def maxT : T → T → Option (Prop × D)
  | .val (.int k a), .val (.int k' b) => some (k = k', .int k (if b > a then b else a))
  | _, _ => none
end
end Ab

namespace Ab
open Go Go.RowKit

/-! ### Building a struct or an array out of parts -/
def RepL (w : World) (S : Nat → Nat → Prop) (cs : List D) (arr : Array Value) : Prop :=
  arr.size = cs.length ∧ (∀ c ∈ cs, c.flat = true) ∧ ∀ i c, cs[i]? = some c → Rep w S c (arr.getD i undef)

theorem foldl_set [Amb] (off : Nat) : ∀ (l : List Value) (k : Nat) (arr : Array Value), off + k + l.length ≤ arr.size →
    let r := (l.zipIdx k).foldl (fun cs (x : Value × Nat) => cs.setIfInBounds (off + x.2) x.1) arr
    r.size = arr.size ∧ ∀ j, r.getD j undef = if off + k ≤ j ∧ j < off + k + l.length then l.getD (j - (off + k)) undef else arr.getD j undef
  | [], k, arr, _ => ⟨rfl, fun j => by rw [if_neg (by simp)]; rfl⟩
  | v :: l, k, arr, h => by
    simp only [List.length_cons] at h
    have ih := foldl_set off l (k + 1) (arr.setIfInBounds (off + k) v) (by simp; omega)
    simp only [List.zipIdx_cons, List.foldl_cons]
    refine ⟨ih.1.trans (by simp), fun j => ?_⟩
    rw [ih.2 j]
    by_cases h1 : j = off + k
    · subst h1
      rw [if_neg (by omega), if_pos (by simp), Nat.sub_self]
      simp only [Array.getD_eq_getD_getElem?, Array.getElem?_setIfInBounds]
      simp [show off + k < arr.size by omega]
    · have e : (arr.setIfInBounds (off + k) v).getD j undef = arr.getD j undef := by
        simp only [Array.getD_eq_getD_getElem?, Array.getElem?_setIfInBounds]
        rw [if_neg (by omega)]
      rw [e]
      by_cases h2 : off + k ≤ j ∧ j < off + k + (v :: l).length
      · simp only [List.length_cons] at h2
        rw [if_pos (by omega), if_pos (by simp; omega), show j - (off + k) = (j - (off + (k + 1))) + 1 by omega]
        simp
      · simp only [List.length_cons] at h2
        rw [if_neg (by omega), if_neg (by simp; omega)]

theorem foldl_set_arr [Amb] (off : Nat) (l arr : Array Value) (h : off + l.size ≤ arr.size) :
    let r := Array.foldl (fun cs (x : Value × Nat) => match x with | (c, j) => cs.setIfInBounds (off + j) c) arr l.zipIdx
    r.size = arr.size ∧ ∀ j, r.getD j undef = if off ≤ j ∧ j < off + l.size then l.getD (j - off) undef else arr.getD j undef := by
  obtain ⟨l⟩ := l
  have := foldl_set off l 0 arr (by simpa using h)
  simp only [Nat.add_zero] at this
  have e : ∀ j, (⟨l⟩ : Array Value).getD j undef = l.getD j undef := fun j => by simp [Array.getD_eq_getD_getElem?, List.getD_eq_getElem?_getD]
  have e2 : Array.foldl (fun cs (x : Value × Nat) => match x with | (c, j) => cs.setIfInBounds (off + j) c) arr (⟨l⟩ : Array Value).zipIdx =
      List.foldl (fun cs x => cs.setIfInBounds (off + x.2) x.1) arr l.zipIdx := by simp
  rw [e2]
  exact ⟨this.1, fun j => by rw [e]; exact this.2 j⟩

/-- The cells once the parts are laid. -/
def fillD (place : Nat → Option (Nat × Nat)) : List D → List (Nat × D) → Option (Prop × List D)
  | cur, [] => some (True, cur)
  | cur, (i, d) :: r =>
    match place i with
    | none => none
    | some (off, size) =>
      match fillD place (cur.take off ++ d.cells ++ cur.drop (off + size)) r with
      | none => none
      | some (c, out) => some (d.cells.length = size ∧ off + size ≤ cur.length ∧ c, out)

theorem RepL.splice {w : World} {S : Nat → Nat → Prop} {cs : List D} {arr r : Array Value} {d : D} {v : Value} {off : Nat} (h : RepL w S cs arr) (hd : Rep w S d v) (hoff : off + d.cells.length ≤ cs.length)
    (hs : r.size = arr.size) (hr : ∀ j, r.getD j undef = if off ≤ j ∧ j < off + v.cells.size then v.cells.getD (j - off) undef else arr.getD j undef) :
    RepL w S (cs.take off ++ d.cells ++ cs.drop (off + d.cells.length)) r := by
  obtain ⟨h1, h2, h3⟩ := h
  obtain ⟨k1, k2, k3⟩ := hd.cells
  refine ⟨?_, fun c hc => ?_, fun i c hi => ?_⟩
  · simp; omega
  · simp only [List.mem_append] at hc
    rcases hc with (hc | hc) | hc
    · exact h2 c (List.mem_of_mem_take hc)
    · exact k2 c hc
    · exact h2 c (List.mem_of_mem_drop hc)
  · rw [hr i]
    by_cases c1 : i < off
    · rw [if_neg (by omega)]
      rw [List.getElem?_append_left (by simp; omega), List.getElem?_append_left (by simp; omega), List.getElem?_take, if_pos c1] at hi
      exact h3 i c hi
    · by_cases c2 : i < off + d.cells.length
      · rw [if_pos (by omega)]
        rw [List.getElem?_append_left (by simp; omega), List.getElem?_append_right (by simp; omega)] at hi
        rw [show (cs.take off).length = off by simp; omega] at hi
        exact k3 _ c hi
      · rw [if_neg (by omega)]
        rw [List.getElem?_append_right (by simp; omega), List.getElem?_drop] at hi
        rw [show off + d.cells.length + (i - (cs.take off ++ d.cells).length) = i by simp; omega] at hi
        exact h3 i c hi

theorem fill_ok [Amb] {w : World} {S : Nat → Nat → Prop} {place : Nat → Option (Nat × Nat)} : ∀ (parts : List (Nat × D)) (vs : List (Nat × Value)) (cs : List D) (arr : Array Value) (c : Prop) (out : List D),
    RepL w S cs arr → parts.length = vs.length → (∀ (i : Nat) (p : Nat × D) (q : Nat × Value), parts[i]? = some p → vs[i]? = some q → p.1 = q.1 ∧ Rep w S p.2 q.2) → fillD place cs parts = some (c, out) → c →
    ∃ r, Instr.fill place arr vs = some r ∧ RepL w S out r
  | [], [], cs, arr, c, out, h, _, _, hf, _ => by
    simp only [fillD, Option.some.injEq, Prod.mk.injEq] at hf; obtain ⟨_, rfl⟩ := hf
    exact ⟨arr, rfl, h⟩
  | [], _ :: _, _, _, _, _, _, hl, _, _, _ => by simp at hl
  | _ :: _, [], _, _, _, _, _, hl, _, _, _ => by simp at hl
  | (i, d) :: parts, (i', v) :: vs, cs, arr, c, out, h, hl, hp, hf, hc => by
    obtain ⟨e1, e2⟩ := hp 0 _ _ rfl rfl
    simp only at e1 e2; subst e1
    simp only [fillD] at hf
    split at hf
    · cases hf
    rename_i off size hpl
    split at hf
    · cases hf
    rename_i c' out' hf'
    simp only [Option.some.injEq, Prod.mk.injEq] at hf; obtain ⟨rfl, rfl⟩ := hf
    obtain ⟨c1, c2, c3⟩ := hc
    subst c1
    have k1 := e2.cells.1
    have k2 := h.1
    have hset := foldl_set_arr off v.cells arr (by omega)
    obtain ⟨r, hr1, hr2⟩ := fill_ok parts vs _ _ _ _ (h.splice e2 c2 hset.1 hset.2) (by simpa using hl) (fun j p q hpj hqj => hp (j + 1) p q hpj hqj) hf' c3
    refine ⟨r, ?_, hr2⟩
    rw [Instr.fill.eq_2, hpl]
    simp only
    rw [if_neg (by simp; omega)]
    exact hr1

theorem D.zok_rep [Amb] {w : World} {S : Nat → Nat → Prop} {d : D} (h : d.zok = true) : Rep w S d d.zv ∧ d.flat = true := by
  cases d with
  | int k n => simp only [D.zok, beq_iff_eq] at h; subst h; exact ⟨.int k 0 (min_np k), rfl⟩
  | bool b => exact ⟨.bool b, rfl⟩
  | str s => simp only [D.zok, List.isEmpty_iff] at h; subst h; exact ⟨.str [] (Nat.zero_le _), rfl⟩
  | slice z es => simp only [D.zok, List.isEmpty_iff] at h; subst h; exact ⟨.nil z none 0 (Nat.zero_le _), rfl⟩
  | lit v => exact ⟨.lit v h, rfl⟩
  | _ => simp [D.zok] at h

theorem TyOk.zeroL [Amb] {P : Program} {t : TypeId} {ti : TI} (h : TyOk P t ti) (w : World) (S : Nat → Nat → Prop) : RepL w S ti.zc ti.zero.cells := by
  have h1 := h.zc
  have hz := h.zok
  rw [List.all_eq_true] at hz
  refine ⟨by rw [← Array.length_toList, h1, List.length_map], fun c hc => (D.zok_rep (w := w) (S := S) (hz c hc)).2, fun i c hi => ?_⟩
  have : ti.zero.cells.getD i undef = c.zv := by
    rw [Array.getD_eq_getD_getElem?, ← Array.getElem?_toList, h1, List.getElem?_map, hi]; rfl
  rw [this]
  exact (D.zok_rep (hz c (List.mem_of_getElem? hi))).1

theorem TyOk.run_zero [Amb] {P : Program} {t : TypeId} {ti : TI} (h : TyOk P t ti) (w : World) : (zeroValue t).run P w = .ok ti.zero w := by
  obtain ⟨i, h1, _, _, h4⟩ := h.size_eq
  simp [zeroValue, typeInfo, h1, h4]

/-- Where the parts of a value of type t lie. -/
def Env.place (E : Env) (t : TypeId) : Option (Nat → Option (Nat × Nat)) :=
  match E.tab t with
  | some { key := .struct fs, .. } => some fun i => match fs[i]? with | some (off, ft) => some (off, E.szOf ft) | none => none
  | some { key := .array _ e, .. } => some fun i => some (i * E.szOf e, E.szOf e)
  | _ => none

/-- Are all field types known? -/
def Env.known (E : Env) (t : TypeId) : Bool :=
  match E.tab t with
  | some { key := .struct fs, .. } => fs.all fun f => (E.tab f.2).isSome
  | some { key := .array _ e, .. } => (E.tab e).isSome
  | _ => false

theorem szOf_some {E : Env} {t : TypeId} (h : (E.tab t).isSome = true) : ∃ ti, E.tab t = some ti ∧ E.szOf t = ti.size := by
  cases ht : E.tab t with
  | none => rw [ht] at h; cases h
  | some ti => exact ⟨ti, rfl, by simp [Env.szOf, ht]⟩

theorem run_places [Amb] {E : Env} (hE : E.Ok) (w : World) : ∀ (fds : List Field), (∀ f ∈ fds, (E.tab f.type).isSome = true) →
    (fds.mapM fun f => do let s ← Go.sizeOf f.type; pure (f.offset, s) : Sem (List (Nat × Nat))).run E.P w = .ok (fds.map fun f => (f.offset, E.szOf f.type)) w
  | [], _ => by simp
  | f :: fds, h => by
    obtain ⟨ti, h1, h2⟩ := szOf_some (h f (by simp))
    have ih := run_places hE w fds (fun f' hf' => h f' (by simp [hf']))
    have h3 := (hE.2 _ _ h1).run_sizeOf w
    rw [List.mapM_cons]
    simp only [Sem.run_bind, h3, Result.andThen_ok, Sem.run_pure, ih, List.map_cons, h2]

theorem run_build [Amb] {E : Env} (hE : E.Ok) {w : World} {S : Nat → Nat → Prop} {t : TypeId} {ti : TI} (htab : E.tab t = some ti) {place : Nat → Option (Nat × Nat)} (hpl : E.place t = some place) (hkn : E.known t = true)
    {parts : List (Nat × D)} {vs : Array (Nat × Value)} (hl : parts.length = vs.size) (hp : ∀ (i : Nat) (p : Nat × D) (q : Nat × Value), parts[i]? = some p → vs.toList[i]? = some q → p.1 = q.1 ∧ Rep w S p.2 q.2)
    {c : Prop} {out : List D} (hf : fillD place ti.zc parts = some (c, out)) (hc : c) :
    ∃ v, (∀ w, (Instr.build t vs).run E.P w = .ok v w) ∧ Rep w S (.agg out) v := by
  have ht := hE.2 _ _ htab
  obtain ⟨r, hr, hr1, hr2, hr3⟩ := fill_ok parts vs.toList ti.zc ti.zero.cells c out (ht.zeroL w S) (by simpa using hl) hp hf hc
  refine ⟨.agg r, fun w => ?_, .agg out r hr1 hr2 hr3⟩
  unfold Env.place at hpl
  unfold Env.known at hkn
  rw [htab] at hpl hkn
  split at hpl
  · rename_i fs _ _ _ _ _ heq
    simp only [Option.some.injEq] at heq hpl
    subst heq hpl
    obtain ⟨fds, e1, e2⟩ := ht.struct rfl
    simp only at e2 hkn
    rw [e2, List.all_map, List.all_eq_true] at hkn
    have hm := run_places hE w fds.toList (fun f hf' => hkn f hf')
    have hm' : (fds.mapM fun f => do let s ← Go.sizeOf f.type; pure (f.offset, s) : Sem (Array (Nat × Nat))).run E.P w = .ok (fds.toList.map fun f => (f.offset, E.szOf f.type)).toArray w := by
      rw [Array.mapM_eq_mapM_toList]
      simp only [Sem.run_map, hm, Result.andThen_ok]
    have hpe : (fun x => ((fds.toList.map fun f => (f.offset, E.szOf f.type)).toArray)[x]?) = (fun (i : Nat) => match fs[i]? with | some (off, ft) => some (off, E.szOf ft) | none => none) := by
      funext i
      rw [e2, List.getElem?_map]
      simp only [List.getElem?_toArray, List.getElem?_map]
      cases fds.toList[i]? <;> rfl
    simp only [Instr.build, Sem.run_bind, ht.run_zero, Result.andThen_ok, run_underlying e1, hm', hpe, hr, Sem.run_pure]
  · rename_i n e _ _ _ _ _ heq
    simp only [Option.some.injEq] at heq hpl
    subst heq hpl
    obtain ⟨ti', e1, e2⟩ := szOf_some hkn
    have e3 := (hE.2 _ _ e1).run_sizeOf w
    rw [← e2] at e3
    simp only [Instr.build, Sem.run_bind, ht.run_zero, Result.andThen_ok, run_underlying (ht.array rfl), e3, hr, Sem.run_pure]
  · cases hpl
end Ab

namespace Ab
open Go Go.RowKit

/-- A part of a list, as an expression 'x[lo:hi]' takes it. -/
def subL {α : Type} (l : List α) : Option Int → Option Int → Prop × List α
  | none, none => (True, l)
  | some a, none => (0 ≤ a ∧ a ≤ l.length, l.drop a.toNat)
  | none, some b => (0 ≤ b ∧ b ≤ l.length, l.take b.toNat)
  | some a, some b => (0 ≤ a ∧ a ≤ b ∧ b ≤ l.length, (l.take b.toNat).drop a.toNat)

def optI : Option T → Option (Option Int)
  | none => some none
  | some (.val (.int _ n)) => some (some n)
  | _ => none

def slcT (E : Env) (g : Nat → T) (t : TypeId) (tx : T) (lo hi mx : Option T) : Option (Prop × List Nat × T) :=
  match optI lo, optI hi, mx with
  | some lo, some hi, none =>
    match E.tab t with
    | some { key := .string, .. } =>
      match tx with
      | .val (.str s) => some ((subL s lo hi).1, [], .val (.str (subL s lo hi).2))
      | _ => none
    | some { key := .slice e, .. } =>
      match dat g (E.zd e) tx with
      | some (l, .slice z es) => some (z.cells.length = E.szOf e ∧ 0 < E.szOf e ∧ (subL es lo hi).1, l, .val (.slice z (subL es lo hi).2))
      | _ => none
    | _ => none
  | some none, some (some 0), some (.val (.int _ 0)) =>
    match E.tab t with
    | some { key := .slice e, .. } =>
      match dat g (E.zd e) tx with
      | some (_, .slice _ _) => some (0 < E.szOf e, [], .nils)
      | _ => none
    | _ => none
  | _, _, _ => none

def isU8 : D → Bool
  | .int .u8 _ => true
  | _ => false
def byteOf : D → UInt8
  | .int _ n => UInt8.ofNat n.toNat
  | _ => 0

def cvtT (E : Env) (g : Nat → T) (src dst : TypeId) (t : T) : Option (Prop × List Nat × D) :=
  match E.tab src, E.tab dst with
  | some s, some d =>
    match d.key with
    | .int k => match t with | .val (.int _ n) => some (True, [], .int k (k.wrap n)) | _ => none
    | .string =>
      match s.key with
      | .string => match t with | .val (.str x) => some (True, [], .str x) | _ => none
      | .slice e =>
        match E.tab e with
        | some { key := .int .u8, .. } =>
          match dat g (.int .u8 0) t with
          | some (l, .slice _ es) => some (es.all isU8 = true, l, .str (es.map byteOf))
          | _ => none
        | _ => none
      | _ => none
    | _ => none
  | _, _ => none

def OptRT (w : World) (S : Nat → Nat → Prop) (bk : Pl → Option Nat) (g : Nat → T) : Option T → Option Value → Prop
  | none, none => True
  | some t, some v => RT w S bk g 0 t v
  | _, _ => False
def OptInt : Option Int → Option Value → Prop
  | none, none => True
  | some n, some v => ∃ k, v = .int k n
  | _, _ => False

/-- A field of a value, an element of a value. -/
def partT (E : Env) (ft off : Nat) : T → Option (Prop × D)
  | .val (.agg cs) =>
    match E.tab ft with
    | some ti => if ti.key.agg then some (off + ti.size ≤ cs.length, .agg ((cs.drop off).take ti.size)) else some (off < cs.length, cs.getD off ti.zd)
    | none => none
  | _ => none
def fldV (E : Env) (xt f : Nat) (t : T) : Option (Prop × D) :=
  match E.tab xt with
  | some { key := .struct fs, .. } => match fs[f]? with | some (off, ft) => partT E ft off t | none => none
  | _ => none
def idxV (E : Env) (xt : Nat) (tx ti : T) : Option (Prop × D) :=
  match ti with
  | .val (.int _ i) =>
    match E.tab xt with
    | some { key := .string, .. } => match tx with | .val (.str s) => some (0 ≤ i ∧ i < s.length, .int .u8 (s.getD i.toNat 0).toNat) | _ => none
    | some { key := .array n e, .. } =>
      match partT E e (i.toNat * E.szOf e) tx with
      | some (c, d) => some ((E.tab e).isSome = true ∧ 0 ≤ i ∧ i < n ∧ c, d)
      | none => none
    | _ => none
  | _ => none

section
variable {base : Nat} {S0 : Nat → Nat → Prop} {w0 : World} {N : Nat} {g : Nat → T} {a : Act} {w : World} {bk : Pl → Option Nat} {E : Env}

theorem Rep.sub [Amb] {S : Nat → Nat → Prop} {z : D} {es : List D} {o : Option Addr} {len cap : Nat} (h : Rep w S (.slice z es) (.slice o len cap)) {l n : Nat} (h1 : l ≤ n) (h2 : n ≤ es.length) :
    Rep w S (.slice z ((es.take n).drop l)) (sliced o l n cap z.cells.length) := by
  have hn : ((es.take n).drop l).length = n - l := by simp; omega
  obtain ⟨o', cap', e1, e2, e3⟩ := h.slice_len
  simp only [Value.slice.injEq] at e1; obtain ⟨rfl, rfl, rfl⟩ := e1
  have hcap : cap ≤ maxLen := by cases h <;> assumption
  unfold sliced
  by_cases he : (es.take n).drop l = []
  · rw [he]
    have : n - l = 0 := by rw [← hn, he]; rfl
    rw [this]
    exact .nil z _ _ (by omega)
  · have hlt : l < n := by
      have := List.length_pos_iff.2 he
      omega
    cases h with
    | nil => simp at h2; omega
    | slice _ sz hz _ b off _ u hlen _ hsz hc hr =>
      rw [if_neg (by omega), Option.map_some, add_at, ← hn]
      have hget : ∀ i e, ((es.take n).drop l)[i]? = some e → es[l + i]? = some e := fun i e hi => by
        rw [List.getElem?_drop, List.getElem?_take] at hi
        split at hi
        · exact hi
        · cases hi
      have hoff : ∀ i j, off + l * z.cells.length + i * sz + j = off + (l + i) * sz + j := fun i j => by rw [hz, Nat.add_mul]; omega
      refine .slice z sz hz _ b _ _ (fun i j => u (l + i) j) (by omega) (by omega) (fun e he' => hsz e (List.mem_of_mem_take (List.mem_of_mem_drop he'))) (fun i e j c hi hj => ?_) (fun i e j c hi hj => hr _ e j c (hget i e hi) hj)
      rw [hoff]; exact hc _ e j c (hget i e hi) hj

theorem optI_some {S : Nat → Nat → Prop} {ot : Option T} {ov : Option Value} (h : OptRT w S bk g ot ov) {r : Option Int} (hr : optI ot = some r) : OptInt r ov := by
  match ot, ov, h with
  | none, none, _ => simp [optI] at hr; subst hr; trivial
  | some t, some v, h =>
    cases t with
    | val d =>
      cases d with
      | int k n => simp [optI] at hr; subst hr; cases h; exact ⟨k, rfl⟩
      | _ => simp [optI] at hr
    | _ => simp [optI] at hr

/-- The bounds of a slice expression, as numbers. -/
theorem run_bounds (isSlice : Bool) (len cap : Nat) (hlc : len ≤ cap) {α : Type} (l : List α) (hl : l.length = len) {lo hi : Option Int} {vl vh : Option Value}
    (h1 : OptInt lo vl) (h2 : OptInt hi vh)
    (hc : (subL l lo hi).1) (P : Program) :
    ∃ p q, (∀ w, (Instr.sliceBounds isSlice len cap vl vh none).run P w = .ok (p, q, cap) w) ∧ p ≤ q ∧ q ≤ len ∧ (subL l lo hi).2 = (l.take q).drop p := by
  match lo, vl, h1, hi, vh, h2 with
  | none, none, _, none, none, _ =>
    exact ⟨0, len, fun w => by simp [Instr.sliceBounds], Nat.zero_le _, Nat.le_refl _, by simp [subL, ← hl]⟩
  | some a, some _, ⟨k, rfl⟩, none, none, _ =>
    obtain ⟨c1, c2⟩ := hc
    refine ⟨a.toNat, len, fun w => ?_, by omega, Nat.le_refl _, by simp [subL, ← hl]⟩
    simp [Instr.sliceBounds, run_sliceBound w k a len _ c1 (by omega)]
  | none, none, _, some b, some _, ⟨k, rfl⟩ =>
    obtain ⟨c1, c2⟩ := hc
    refine ⟨0, b.toNat, fun w => ?_, by omega, by omega, by simp [subL]⟩
    simp [Instr.sliceBounds, run_sliceBound w k b cap _ c1 (by omega)]
  | some a, some _, ⟨k, rfl⟩, some b, some _, ⟨k', rfl⟩ =>
    obtain ⟨c1, c2, c3⟩ := hc
    refine ⟨a.toNat, b.toNat, fun w => ?_, by omega, by omega, by simp [subL]⟩
    simp [Instr.sliceBounds, run_sliceBound w k' b cap _ (by omega) (by omega), run_sliceBound w k a b.toNat _ c1 (by omega)]

theorem extract_str (s : List UInt8) (p q : Nat) : (⟨s.toArray⟩ : ByteArray).extract p q = ⟨((s.take q).drop p).toArray⟩ := by
  apply ByteArray.ext
  rw [ByteArray.data_extract]
  apply Array.toList_inj.1
  rw [Array.toList_extract]
  show List.extract s p q = _
  rw [List.extract_eq_drop_take', List.toList_toArray]

theorem slcT_ok [Amb] (hE : E.Ok) (h : RB base S0 w0 N g a w bk) {t : TypeId} {tx : T} {v : Value} (hx : RT w (stab base S0 g bk w.heap.size) bk g 0 tx v) {lo hi mx : Option T} {vl vh vm : Option Value}
    (h1 : OptRT w (stab base S0 g bk w.heap.size) bk g lo vl) (h2 : OptRT w (stab base S0 g bk w.heap.size) bk g hi vh) (h3 : OptRT w (stab base S0 g bk w.heap.size) bk g mx vm)
    {c : Prop} {l : List Nat} {t' : T} (he : slcT E g t tx lo hi mx = some (c, l, t')) (hc : c) :
    ∃ z, (∀ w, (Instr.sliceAt t v vl vh vm).run E.P w = .ok z w) ∧ RT w (stab base S0 (frzs g l) bk w.heap.size) bk (frzs g l) 0 t' z ∧ t'.plain = true := by
  unfold slcT at he
  split at he
  · rename_i lo' hi' hlo hhi
    have b1 := optI_some h1 hlo
    have b2 := optI_some h2 hhi
    match vm, h3 with
    | none, _ =>
    split at he
    · rename_i htab
      have ht := (hE.2 _ _ htab).string rfl
      split at he
      · rename_i s
        simp only [Option.some.injEq, Prod.mk.injEq] at he; obtain ⟨rfl, rfl, rfl⟩ := he
        cases hx with | str _ hs =>
        obtain ⟨p, q, hr, hpq, hq, heq⟩ := run_bounds false s.length s.length (Nat.le_refl _) s rfl b1 b2 hc E.P
        refine ⟨.string ⟨((s.take q).drop p).toArray⟩, fun w => ?_, ?_, rfl⟩
        · have hsz : (⟨s.toArray⟩ : ByteArray).size = s.length := rfl
          simp [Instr.sliceAt, Instr.slice, run_underlying ht, hsz, hr, extract_str]
        · rw [heq]
          exact .str _ (by simp; omega)
      · cases he
    · rename_i e _ _ _ _ _ htab
      have ht := (hE.2 _ _ htab).slice rfl
      split at he
      · rename_i l' z es hd
        simp only [Option.some.injEq, Prod.mk.injEq] at he; obtain ⟨rfl, rfl, rfl⟩ := he
        obtain ⟨c1, c2, c3⟩ := hc
        have hr := dat_ok h hx hd l' (fun s hs => hs)
        obtain ⟨o, cap, rfl, h4, h5⟩ := Rep.slice_len hr
        obtain ⟨p, q, hrun, hpq, hq, heq⟩ := run_bounds true es.length cap h5 es rfl b1 b2 c3 E.P
        have hsub := hr.sub hpq hq
        obtain ⟨ti', k1, k2⟩ := szOf_pos (Nat.ne_of_gt c2)
        have k3 := fun w => (hE.2 _ _ k1).run_sizeOf w
        simp only [k2, ← c1] at k3
        rw [heq]
        refine ⟨_, fun w => ?_, hsub, rfl⟩
        simp [Instr.sliceAt, Instr.slice, run_underlying ht, hrun, k3, sliced]
      · cases he
    · cases he
  · rename_i hlo hhi
    have b1 := optI_some h1 hlo
    have b2 := optI_some h2 hhi
    match vl, vh, vm, b1, b2, h3 with
    | none, some _, some _, _, ⟨k, rfl⟩, h3 =>
    cases h3
    split at he
    · rename_i e _ _ _ _ _ htab
      have ht := (hE.2 _ _ htab).slice rfl
      split at he
      · rename_i l' z es hd
        simp only [Option.some.injEq, Prod.mk.injEq] at he; obtain ⟨rfl, rfl, rfl⟩ := he
        have hr := dat_ok h hx hd l' (fun s hs => hs)
        obtain ⟨o, cap, rfl, h4, h5⟩ := Rep.slice_len hr
        obtain ⟨ti', k1, k2⟩ := szOf_pos (Nat.ne_of_gt hc)
        have k3 := fun w => (hE.2 _ _ k1).run_sizeOf w
        refine ⟨.slice o 0 0, fun w => ?_, ⟨o, rfl⟩, rfl⟩
        simp [Instr.sliceAt, Instr.slice, run_underlying ht, Instr.sliceBounds, Instr.sliceBound, asIntOf, k3]
      · cases he
    · cases he
  · cases he
end
end Ab

namespace Ab
open Go Go.RowKit

section
variable {base : Nat} {S0 : Nat → Nat → Prop} {w0 : World} {N : Nat} {g : Nat → T} {a : Act} {w : World} {bk : Pl → Option Nat} {E : Env}

theorem partT_ok [Amb] (hE : E.Ok) {S : Nat → Nat → Prop} {ft off : Nat} {t : T} {v : Value} (ht : RT w S bk g 0 t v) {c : Prop} {d : D} (h : partT E ft off t = some (c, d)) (hc : c) :
    ∃ cs z, v = .agg cs ∧ (∀ w, (part ft cs off).run E.P w = .ok z w) ∧ Rep w S d z := by
  unfold partT at h
  split at h
  · rename_i cs
    split at h
    · rename_i ti htab
      cases ht with
      | agg _ vs hl hf hr =>
        have h1 := fun w => (hE.2 _ _ htab).run_isAgg w
        have h2 := fun w => (hE.2 _ _ htab).run_sizeOf w
        by_cases hagg : ti.key.agg = true
        · rw [if_pos hagg] at h
          simp only [Option.some.injEq, Prod.mk.injEq] at h; obtain ⟨rfl, rfl⟩ := h
          simp only [hagg] at h1
          refine ⟨vs, .agg (vs.extract off (off + ti.size)), rfl, fun w => by simp [part, h1, h2], .agg _ _ (by simp; omega) (fun x hx => hf x (List.mem_of_mem_drop (List.mem_of_mem_take hx))) (fun i x hi => ?_)⟩
          rw [List.getElem?_take] at hi
          split at hi
          · rename_i hlt
            rw [List.getElem?_drop] at hi
            have h3 := hr _ _ hi
            have h4 := (List.getElem?_eq_some_iff.1 hi).1
            have e : (vs.extract off (off + ti.size)).getD i undef = vs.getD (off + i) undef := by
              simp only [Array.getD_eq_getD_getElem?, Array.getElem?_extract]
              rw [if_pos (by omega)]
            rw [e]; exact h3
          · cases hi
        · rw [if_neg hagg] at h
          simp only [Option.some.injEq, Prod.mk.injEq] at h; obtain ⟨rfl, rfl⟩ := h
          have hagg' : ti.key.agg = false := by simpa using hagg
          simp only [hagg'] at h1
          have h3 : cs[off]? = some (cs.getD off ti.zd) := by rw [List.getD_eq_getElem?_getD, List.getElem?_eq_getElem hc]; rfl
          refine ⟨vs, vs.getD off undef, rfl, fun w => ?_, hr _ _ h3⟩
          have h4 : vs[off]? = some (vs.getD off undef) := by rw [Array.getD_eq_getD_getElem?, Array.getElem?_eq_getElem (by omega)]; rfl
          generalize vs.getD off undef = z at h4
          simp [part, h1, h4]
    · cases h
  · cases h

theorem fldV_ok [Amb] (hE : E.Ok) {S : Nat → Nat → Prop} {xt f : Nat} {t : T} {v : Value} (ht : RT w S bk g 0 t v) {c : Prop} {d : D} (h : fldV E xt f t = some (c, d)) (hc : c) :
    ∃ z, (∀ w, (Instr.field xt v f).run E.P w = .ok z w) ∧ Rep w S d z := by
  unfold fldV at h
  split at h
  · rename_i fs _ _ _ _ _ htab
    split at h
    · rename_i off ft hf
      obtain ⟨fds, h1, h2⟩ := (hE.2 _ _ htab).struct rfl
      rw [h2, List.getElem?_map] at hf
      cases hfd : fds.toList[f]? with
      | none => rw [hfd] at hf; simp at hf
      | some fd =>
        rw [hfd] at hf; simp only [Option.map_some, Option.some.injEq, Prod.mk.injEq] at hf
        obtain ⟨rfl, rfl⟩ := hf
        have hfd' : fds[f]? = some fd := by simpa using hfd
        obtain ⟨cs, z, rfl, h3, h4⟩ := partT_ok hE ht h hc
        exact ⟨z, fun w => by simp [Instr.field, run_underlying h1, hfd', asAgg, h3], h4⟩
    · cases h
  · cases h

theorem idxV_ok [Amb] (hE : E.Ok) {S : Nat → Nat → Prop} {xt : Nat} {tx ti : T} {v u : Value} (hx : RT w S bk g 0 tx v) (hi : RT w S bk g 0 ti u) {c : Prop} {d : D} (h : idxV E xt tx ti = some (c, d)) (hc : c) :
    ∃ z, (∀ w, (Instr.index xt v u).run E.P w = .ok z w) ∧ Rep w S d z := by
  unfold idxV at h
  split at h
  · rename_i k0 i
    cases hi with | int _ _ hrng =>
    split at h
    · rename_i htab
      have ht := (hE.2 _ _ htab).string rfl
      split at h
      · rename_i s
        simp only [Option.some.injEq, Prod.mk.injEq] at h; obtain ⟨rfl, rfl⟩ := h
        obtain ⟨c1, c2⟩ := hc
        cases hx with | str _ hs =>
        have hlt : i.toNat < s.length := by omega
        have e : (⟨s.toArray⟩ : ByteArray)[i.toNat]? = some (s.getD i.toNat 0) := by
          rw [List.getD_eq_getElem?_getD, List.getElem?_eq_getElem hlt, Option.getD_some]
          rw [getElem?_pos (⟨s.toArray⟩ : ByteArray) i.toNat hlt]
          rfl
        have hb : (s.getD i.toNat 0).toNat < 256 := UInt8.toNat_lt _
        refine ⟨.int .u8 (s.getD i.toNat 0).toNat, fun w => ?_, .int _ _ ⟨?_, ?_⟩⟩
        · simp only [Instr.index, asIntOf, Sem.run_bind, Sem.run_pure, Result.andThen_ok, run_underlying ht, c1, if_true, e]
        · rw [show IntKind.u8.min = 0 from by decide]; omega
        · rw [show IntKind.u8.max = 255 from by decide]; omega
      · cases h
    · rename_i n e _ _ _ _ _ htab
      have ht := (hE.2 _ _ htab).array rfl
      split at h
      · rename_i c' d' hp
        simp only [Option.some.injEq, Prod.mk.injEq] at h; obtain ⟨rfl, rfl⟩ := h
        obtain ⟨c1, c2, c3, c4⟩ := hc
        obtain ⟨ti', k1, k2⟩ := szOf_some c1
        have k3 := fun w => (hE.2 _ _ k1).run_sizeOf w
        simp only [← k2] at k3
        obtain ⟨cs, z, rfl, h3, h4⟩ := partT_ok hE hx hp c4
        exact ⟨z, fun w => by simp [Instr.index, asIntOf, run_underlying ht, c2, c3, k3, h3], h4⟩
      · cases h
    · cases h
  · cases h

theorem bytes_ok {S : Nat → Nat → Prop} (f : Value → ByteArray → Sem (ForInStep ByteArray)) (hf : ∀ n s, f (.int .u8 n) s = pure (ForInStep.yield (s.push (UInt8.ofNat n.toNat)))) :
    ∀ (es : List D) (vs : List Value) (acc : ByteArray), es.all isU8 = true → vs.length = es.length → (∀ i d, es[i]? = some d → Rep w S d (vs.getD i undef)) → ∀ w,
    (forIn vs acc f).run E.P w = .ok (acc ++ ⟨(es.map byteOf).toArray⟩) w := by
  intro es
  induction es with
  | nil =>
    intro vs acc _ hl _ w
    match vs, hl with
    | [], _ =>
      simp only [List.forIn_nil, Sem.run_pure, List.map_nil]
      congr 1
      apply ByteArray.ext
      simp [ByteArray.data_append]
  | cons d es ih =>
    intro vs acc hu hl hr w
    match vs, hl with
    | v :: vs, hl =>
      simp only [List.all_cons, Bool.and_eq_true] at hu
      have h0 := hr 0 d rfl
      simp only [List.getD_cons_zero] at h0
      have e : ∃ n, d = .int .u8 n ∧ v = .int .u8 n := by
        cases h0 with
        | int k n h => cases k <;> first | (simp [isU8] at hu; done) | exact ⟨n, rfl, rfl⟩
        | _ => simp [isU8] at hu
      obtain ⟨n, rfl, rfl⟩ := e
      rw [List.forIn_cons]
      rw [hf]
      simp only [pure_bind]
      rw [ih vs _ hu.2 (by simpa using hl) (fun i d' hi => by have := hr (i + 1) d' hi; simpa using this)]
      congr 1
      apply ByteArray.ext
      apply Array.toList_inj.1
      simp [byteOf, ByteArray.data_append, ByteArray.push]

theorem cvtT_ok [Amb] (hE : E.Ok) (h : RB base S0 w0 N g a w bk) {src dst : TypeId} {t : T} {v : Value} (ht : RT w (stab base S0 g bk w.heap.size) bk g 0 t v) {c : Prop} {l : List Nat} {d : D} (hc : cvtT E g src dst t = some (c, l, d)) (hcc : c) :
    ∃ z, (∀ w', Below w.heap.size w w' → (convert src dst v).run E.P w' = .ok z w') ∧ Rep w (stab base S0 (frzs g l) bk w.heap.size) d z := by
  unfold cvtT at hc
  split at hc
  · rename_i s d' hs hd'
    obtain ⟨us, us1, us2⟩ := (hE.2 _ _ hs).desc
    split at hc
    · rename_i k hk
      have hd := (hE.2 _ _ hd').int hk
      split at hc
      · simp only [Option.some.injEq, Prod.mk.injEq] at hc; obtain ⟨rfl, rfl, rfl⟩ := hc
        cases ht
        rename_i k0 n0 hr
        refine ⟨.int k (k.wrap n0), fun w' _ => ?_, .int _ _ (wrap_rng _ _)⟩
        simp [convert, run_underlying us1, run_underlying hd, Conv.intToInt]
      · cases hc
    · rename_i hk
      have hd := (hE.2 _ _ hd').string hk
      split at hc
      · rename_i hks
        have hsd := (hE.2 _ _ hs).string hks
        split at hc
        · simp only [Option.some.injEq, Prod.mk.injEq] at hc; obtain ⟨rfl, rfl, rfl⟩ := hc
          cases ht
          rename_i s0 hs0
          exact ⟨_, fun w' _ => by simp [convert, run_underlying hsd, run_underlying hd], .str _ hs0⟩
        · cases hc
      · rename_i e hks
        have hsd := (hE.2 _ _ hs).slice hks
        split at hc
        · rename_i hte
          have hte' := (hE.2 _ _ hte).int rfl
          split at hc
          · rename_i l' z es hdat
            simp only [Option.some.injEq, Prod.mk.injEq] at hc; obtain ⟨rfl, rfl, rfl⟩ := hc
            have hr := dat_ok h ht hdat l' (fun s hs => hs)
            cases hr with
            | nil _ o cap hcap =>
              cases o with
              | none => exact ⟨.string ⟨#[]⟩, fun w' _ => by simp [convert, run_underlying hsd, run_underlying hd, run_underlying hte', Conv.bytesToString]; rfl, .str [] (Nat.zero_le _)⟩
              | some ad =>
                refine ⟨.string ⟨#[]⟩, fun w' _ => ?_, .str [] (Nat.zero_le _)⟩
                simp [convert, run_underlying hsd, run_underlying hd, run_underlying hte', Conv.bytesToString, loadCells, loadCellsFrom]
                rfl
            | slice _ sz hz _ b off cap u hlen hcap hsz hcell hr' =>
              have hone : ∀ (i : Nat) (e : D), es[i]? = some e → e.cells = [e] := fun i e hi => by
                rw [List.all_eq_true] at hcc
                have := hcc e (List.mem_of_getElem? hi)
                cases e <;> first | rfl | (simp [isU8] at this)
              by_cases hes : es = []
              · subst hes
                refine ⟨.string ⟨#[]⟩, fun w' _ => ?_, .str [] (Nat.zero_le _)⟩
                simp [convert, run_underlying hsd, run_underlying hd, run_underlying hte', Conv.bytesToString, loadCells, loadCellsFrom]
                rfl
              have hsz1 : sz = 1 := by
                match es, hes with
                | e :: es, _ =>
                  have h1 := (hsz e (by simp)).1
                  rw [hone 0 e rfl] at h1; simpa using h1.symm
              subst hsz1
              have hload := fun (w' : World) (hw' : Below w.heap.size w w') => run_loadCells_list (P := E.P) w' (at' b off) ((List.range es.length).map fun i => u i 0) (fun j v hj => by
                rw [List.getElem?_map] at hj
                by_cases hjs : j < es.length
                · rw [List.getElem?_range hjs] at hj; simp at hj; subst hj; rw [add_at]
                  have hg := List.getElem?_eq_getElem hjs
                  have := gr_cell hw' (hcell j _ 0 _ hg (by rw [hone j _ hg]; rfl)).2
                  simpa using this
                · rw [List.getElem?_eq_none (by simpa using hjs)] at hj; cases hj)
              simp only [List.length_map, List.length_range] at hload
              have hb := fun w' f hf => bytes_ok (E := E) (w := w) f hf es ((List.range es.length).map fun i => u i 0) ByteArray.empty hcc (by simp) (fun i d' hi => by
                have hlt := (List.getElem?_eq_some_iff.1 hi).1
                have : ((List.range es.length).map fun i => u i 0).getD i undef = u i 0 := by simp [hlt]
                rw [this]
                exact hr' i d' 0 d' hi (by rw [hone i d' hi]; rfl)) w'
              refine ⟨.string ⟨(es.map byteOf).toArray⟩, fun w' hw' => ?_, .str _ (by simp; omega)⟩
              simp only [convert, Sem.run_bind, run_underlying hsd, run_underlying hd, run_underlying hte', Result.andThen_ok, Conv.bytesToString, hload w' hw']
              rw [← Array.forIn_toList]
              rw [hb w' _ (fun _ _ => rfl)]
              simp
          · cases hc
        · cases hc
      · cases hc
    · cases hc
  · cases hc
end
end Ab

namespace Ab
open Go Go.RowKit

/-- Operands as data, with what must be frozen first. 'hints': the zero of an element where the operand may be a nil slice. -/
def rdDs [Amb] (g : Nat → T) (gs : List Bool) : List (D × Operand) → Option (Prop × List Nat × List D)
  | [] => some (True, [], [])
  | (hint, x) :: r =>
    match dat g hint (rd g gs x).2, rdDs g gs r with
    | some (l, d), some (c, l', ds) => some ((rd g gs x).1 ∧ c, l ++ l', d :: ds)
    | _, _ => none

def buildHints (E : Env) (t : TypeId) (parts : List (Nat × Operand)) : List (D × Operand) :=
  parts.map fun p =>
    (match E.tab t with
      | some { key := .struct fs, .. } => (match fs[p.1]? with | some (_, ft) => E.elemZ ft | none => .bool false)
      | some { key := .array _ e, .. } => E.elemZ e
      | some { key := .slice e, .. } => E.elemZ e
      | _ => .bool false, p.2)

/-- An interface that is nil, beside the constant nil. -/
def nilNil (op : BinOp) (y : Operand) (tx ty : T) : Option Bool :=
  match tx, ty with
  | .val (.lit .nilIface), .val (.lit .nilIface) => (match op, y with | .eql, .const _ => some true | .neq, .const _ => some false | _, _ => none)
  | _, _ => none
def IsIface (E : Env) (t : TypeId) : Prop := ∃ ms, E.P.underlying t = some (.interface ms)
theorem run_equalIn_nil {P : Program} {w : World} (d : Nat) {t : TypeId} {ms} (h : P.underlying t = some (.interface ms)) : (Op.equalIn (d + 1) t .nilIface .nilIface).run P w = .ok true w := by
  simp [Op.equalIn, run_underlying h]
theorem run_eql_nil {P : Program} {w : World} {t : TypeId} {ms} (h : P.underlying t = some (.interface ms)) : (Op.equal t .nilIface .nilIface).run P w = .ok true w := run_equalIn_nil 9999 h

/-- An operation that leaves the world alone: the condition, what is frozen, the content of its slot. -/
def valOp [Amb] (E : Env) (g : Nat → T) (gs : List Bool) (op : Op) : Option (Prop × List Nat × T) :=
  match op with
  | .move x => some ((rd g gs x).1, [], (rd g gs x).2)
  | .assign x => some ((rd g gs x).1, [], (rd g gs x).2)
  | .pick c x y =>
    match (rd g gs c).2 with
    | .val (.bool b) =>
      match (rd g (b :: gs) x).2, (rd g ((!b) :: gs) y).2 with
      | .val (.bool p), .val (.bool q) => some ((rd g gs c).1 ∧ (rd g (b :: gs) x).1 ∧ (rd g ((!b) :: gs) y).1, [], .val (.bool (cond b p q)))
      | _, _ => none
    | _ => none
  | .fieldAddr s x f => (fldA E g s f (rd g gs x).2).map fun r => ((rd g gs x).1 ∧ r.1, [], r.2)
  | .field xt x f => (fldV E xt f (rd g gs x).2).map fun r => ((rd g gs x).1 ∧ r.1, [], .val r.2)
  | .load ty x => (ldT E g ty (rd g gs x).2).map fun r => ((rd g gs x).1 ∧ r.1, r.2.1, r.2.2)
  | .indexAddr t x ix => (idxA E g t (rd g gs x).2 (rd g gs ix).2).map fun r => ((rd g gs x).1 ∧ (rd g gs ix).1 ∧ r.1, [], r.2)
  | .index xt x ix => (idxV E xt (rd g gs x).2 (rd g gs ix).2).map fun r => ((rd g gs x).1 ∧ (rd g gs ix).1 ∧ r.1, [], .val r.2)
  | .binOp op xt x y _ =>
    match nilNil op y (rd g gs x).2 (rd g gs y).2 with
    | some b => some ((rd g gs x).1 ∧ (rd g gs y).1 ∧ IsIface E xt, [], .val (.bool b))
    | none => (binT E op xt (rd g gs x).2 (rd g gs y).2).map fun r => ((rd g gs x).1 ∧ (rd g gs y).1 ∧ r.1, [], .val r.2)
  | .unOp op _ x => (unT op (rd g gs x).2).map fun d => ((rd g gs x).1, [], .val d)
  | .convert src dst x => (cvtT E g src dst (rd g gs x).2).map fun r => ((rd g gs x).1 ∧ r.1, r.2.1, .val r.2.2)
  | .slice t x lo hi mx =>
    (slcT E g t (rd g gs x).2 (lo.map fun o => (rd g gs o).2) (hi.map fun o => (rd g gs o).2) (mx.map fun o => (rd g gs o).2)).map fun r =>
      ((rd g gs x).1 ∧ (∀ o, lo = some o → (rd g gs o).1) ∧ (∀ o, hi = some o → (rd g gs o).1) ∧ (∀ o, mx = some o → (rd g gs o).1) ∧ r.1, r.2.1, r.2.2)
  | .extract x i =>
    match (rd g gs x).2 with
    | .tup ds => (ds[i]?).map fun d => ((rd g gs x).1, [], .val d)
    | _ => none
  | .nilCheck x =>
    match (rd g gs x).2 with
    | .ptr s o => match (g s).box? with | some _ => some ((rd g gs x).1, [], .ptr s o) | none => none
    | .val (.ref cs) => some ((rd g gs x).1, [], .val (.ref cs))
    | _ => none
  | .build t parts =>
    match E.place t, E.tab t, rdDs g gs (buildHints E t parts.toList) with
    | some place, some ti, some (c, l, ds) =>
      match fillD place ti.zc ((parts.toList.map Prod.fst).zip ds) with
      | some (c', out) => some (c ∧ E.known t = true ∧ c', l, .val (.agg out))
      | none => none
    | _, _, _ => none
  | .call { callee := .builtin b, args := args, argTypes := ats } =>
    match b, args.toList, ats.toList with
    | .len, [x], [t] => (lenT E g t (rd g gs x).2).map fun d => ((rd g gs x).1 ∧ (match E.tab t with | some { key := .array n _, .. } => n ≤ maxLen | _ => True), [], .val d)
    | .min, [x, y], _ => (minT (rd g gs x).2 (rd g gs y).2).map fun r => ((rd g gs x).1 ∧ (rd g gs y).1 ∧ r.1, [], .val r.2)
    | .max, [x, y], _ => (maxT (rd g gs x).2 (rd g gs y).2).map fun r => ((rd g gs x).1 ∧ (rd g gs y).1 ∧ r.1, [], .val r.2)
    | _, _, _ => none
  | _ => none

section
variable {base : Nat} {S0 : Nat → Nat → Prop} {w0 : World} {N : Nat} {g : Nat → T} {a : Act} {w : World} {bk : Pl → Option Nat} {E : Env}

theorem rdDs_ok [Amb] (h : RB base S0 w0 N g a w bk) {gs : List Bool} (hgs : gs.all id = true) : ∀ (xs : List (D × Operand)) {c : Prop} {l : List Nat} {ds : List D}, rdDs g gs xs = some (c, l, ds) → c → ∀ l', (∀ s ∈ l, s ∈ l') →
    ds.length = xs.length ∧ ∀ (i : Nat) (d : D) (x : D × Operand), ds[i]? = some d → xs[i]? = some x → Rep w (stab base S0 (frzs g l') bk w.heap.size) d (a.eval x.2)
  | [], c, l, ds, hd, _, l', _ => by
    simp only [rdDs, Option.some.injEq, Prod.mk.injEq] at hd; obtain ⟨_, _, rfl⟩ := hd
    exact ⟨rfl, fun i d x hi => by simp at hi⟩
  | (hint, x) :: xs, c, l, ds, hd, hc, l', hl => by
    simp only [rdDs] at hd
    split at hd
    · rename_i l1 d1 c1 l2 ds2 h1 h2
      simp only [Option.some.injEq, Prod.mk.injEq] at hd; obtain ⟨rfl, rfl, rfl⟩ := hd
      obtain ⟨r1, r2⟩ := rd_ok h hgs x hc.1
      have ih := rdDs_ok h hgs xs h2 hc.2 l' (fun s hs => hl s (by simp [hs]))
      refine ⟨by simp [ih.1], fun i d y hi hy => ?_⟩
      match i, hi, hy with
      | 0, hi, hy =>
        simp at hi hy; subst hi hy
        exact dat_ok h r1 h1 l' (fun s hs => hl s (by simp [hs]))
      | i + 1, hi, hy => exact ih.2 i d y (by simpa using hi) (by simpa using hy)
    · cases hd

theorem min_ok {S : Nat → Nat → Prop} {tx ty : T} {u v : Value} (hx : RT w S bk g 0 tx u) (hy : RT w S bk g 0 ty v) {c : Prop} {d : D} (h : minT tx ty = some (c, d)) (hc : c) (ts : Array TypeId) (t : TypeId) (P : Program) :
    ∃ z, (∀ w, (Builtin.min_ ts t #[u, v]).run P w = .ok z w) ∧ Rep w S d z := by
  unfold minT at h
  split at h
  · simp only [Option.some.injEq, Prod.mk.injEq] at h; obtain ⟨rfl, rfl⟩ := h
    subst hc
    cases hx with | int _ _ h1 => cases hy with | int _ _ h2 =>
    rename_i k a b
    refine ⟨_, fun w => run_min_int2 w ts t k k a b, .int _ _ ?_⟩
    split <;> assumption
  · cases h

theorem max_ok {S : Nat → Nat → Prop} {tx ty : T} {u v : Value} (hx : RT w S bk g 0 tx u) (hy : RT w S bk g 0 ty v) {c : Prop} {d : D} (h : maxT tx ty = some (c, d)) (hc : c) (ts : Array TypeId) (t : TypeId) (P : Program) :
    ∃ z, (∀ w, (Builtin.max_ ts t #[u, v]).run P w = .ok z w) ∧ Rep w S d z := by
  unfold maxT at h
  split at h
  · simp only [Option.some.injEq, Prod.mk.injEq] at h; obtain ⟨rfl, rfl⟩ := h
    subst hc
    cases hx with | int _ _ h1 => cases hy with | int _ _ h2 =>
    rename_i k a b
    refine ⟨_, fun w => run_max_int2 w ts t k k a b, .int _ _ ?_⟩
    split <;> assumption
  · cases h

/-- An operation that reads no memory. -/
def dryOp : Op → Bool
  | .load .. => false
  | .convert .. => false
  | _ => true

theorem valOp_okB [Amb] (hE : E.Ok) (h : RB base S0 w0 N g a w bk) {gs : List Bool} (hgs : gs.all id = true) {o : Oper} {c : Prop} {l : List Nat} {t : T} (hv : valOp E g gs o.op = some (c, l, t)) (hc : c) :
    ∃ v, (∀ w', (dryOp o.op = false → Below w.heap.size w w') → (execOp a.eval o).run E.P w' = .ok (.value v) w') ∧ RT w (stab base S0 (frzs g l) bk w.heap.size) bk (frzs g l) 0 t v ∧ t.plain = true := by
  obtain ⟨dst, op, type, pos, after, guard⟩ := o
  simp only at hv
  cases op <;> simp only [valOp, Option.some.injEq, Prod.mk.injEq, Option.map_eq_some_iff, reduceCtorEq] at hv
  case move x =>
    obtain ⟨rfl, rfl, rfl⟩ := hv
    obtain ⟨r1, r2⟩ := rd_ok h hgs x hc
    exact ⟨_, fun _ _ => rfl, r1, r2⟩
  case assign x =>
    obtain ⟨rfl, rfl, rfl⟩ := hv
    obtain ⟨r1, r2⟩ := rd_ok h hgs x hc
    exact ⟨_, fun _ _ => rfl, r1, r2⟩
  case pick x y z =>
    split at hv
    · rename_i b hb
      split at hv
      · rename_i p q hp hq
        simp only [Option.some.injEq, Prod.mk.injEq] at hv; obtain ⟨rfl, rfl, rfl⟩ := hv
        obtain ⟨c1, c2, c3⟩ := hc
        obtain ⟨r1, r2⟩ := rd_ok h hgs x c1
        rw [hb] at r1
        generalize hvx : a.eval x = vx at r1
        cases r1
        cases b
        · obtain ⟨s1, _⟩ := rd_ok h (gs := true :: gs) (by simpa using hgs) z c3
          rw [show (!false) = true from rfl] at hq
          rw [hq] at s1
          exact ⟨_, fun _ _ => by simp [execOp, hvx, asBool], s1, rfl⟩
        · obtain ⟨s1, _⟩ := rd_ok h (gs := true :: gs) (by simpa using hgs) y c2
          rw [hp] at s1
          exact ⟨_, fun _ _ => by simp [execOp, hvx, asBool], s1, rfl⟩
      · cases hv
    · cases hv
  case fieldAddr s x f =>
    obtain ⟨⟨c', t'⟩, h1, rfl, rfl, rfl⟩ := hv
    obtain ⟨r1, r2⟩ := rd_ok h hgs x hc.1
    obtain ⟨z, z1, z2, z3⟩ := fldA_ok hE r1 h1 hc.2
    exact ⟨z, fun w' hw' => by simp [execOp, z1, hw'], z2, z3⟩
  case field xt x f =>
    obtain ⟨⟨c', t'⟩, h1, rfl, rfl, rfl⟩ := hv
    obtain ⟨r1, r2⟩ := rd_ok h hgs x hc.1
    obtain ⟨z, z1, z2⟩ := fldV_ok hE r1 h1 hc.2
    exact ⟨z, fun w' hw' => by simp [execOp, z1, hw'], z2, rfl⟩
  case load ty x =>
    obtain ⟨⟨c', l', t'⟩, h1, rfl, rfl, rfl⟩ := hv
    obtain ⟨r1, r2⟩ := rd_ok h hgs x hc.1
    obtain ⟨z, z1, z2, z3⟩ := ldT_ok hE h r1 h1 hc.2
    exact ⟨z, fun w' hw' => by simp [execOp, z1, hw' rfl], z2, z3⟩
  case indexAddr t x ix =>
    obtain ⟨⟨c', t'⟩, h1, rfl, rfl, rfl⟩ := hv
    obtain ⟨r1, _⟩ := rd_ok h hgs x hc.1
    obtain ⟨r2, _⟩ := rd_ok h hgs ix hc.2.1
    obtain ⟨z, z1, z2, z3⟩ := idxA_ok hE h r1 r2 h1 hc.2.2
    exact ⟨z, fun w' hw' => by simp [execOp, z1, hw'], z2, z3⟩
  case index t x ix =>
    obtain ⟨⟨c', t'⟩, h1, rfl, rfl, rfl⟩ := hv
    obtain ⟨r1, _⟩ := rd_ok h hgs x hc.1
    obtain ⟨r2, _⟩ := rd_ok h hgs ix hc.2.1
    obtain ⟨z, z1, z2⟩ := idxV_ok hE r1 r2 h1 hc.2.2
    exact ⟨z, fun w' hw' => by simp [execOp, z1, hw'], z2, rfl⟩
  case binOp op xt x y zt =>
    split at hv
    · rename_i b hb
      simp only [Option.some.injEq, Prod.mk.injEq] at hv; obtain ⟨rfl, rfl, rfl⟩ := hv
      obtain ⟨c1, c2, ms, c3⟩ := hc
      obtain ⟨r1, _⟩ := rd_ok h hgs x c1
      obtain ⟨r2, _⟩ := rd_ok h hgs y c2
      unfold nilNil at hb
      split at hb
      · rename_i e1 e2
        rw [e1] at r1
        rw [e2] at r2
        generalize hvx : a.eval x = vx at r1
        generalize hvy : a.eval y = vy at r2
        cases r1
        cases r2
        split at hb
        · simp only [Option.some.injEq] at hb; subst hb
          exact ⟨.bool true, fun w' _ => by simp [execOp, hvx, hvy, eqGuard_nil_constR, binOp, run_eql_nil c3], .bool _, rfl⟩
        · simp only [Option.some.injEq] at hb; subst hb
          exact ⟨.bool false, fun w' _ => by simp [execOp, hvx, hvy, eqGuard_nil_constR, binOp, run_eql_nil c3], .bool _, rfl⟩
        · cases hb
      · cases hb
    simp only [Option.map_eq_some_iff, Prod.mk.injEq] at hv
    obtain ⟨⟨c', t'⟩, h1, rfl, rfl, rfl⟩ := hv
    obtain ⟨r1, _⟩ := rd_ok h hgs x hc.1
    obtain ⟨r2, _⟩ := rd_ok h hgs y hc.2.1
    obtain ⟨z, z1, z2⟩ := binT_ok hE r1 r2 h1 hc.2.2 x y
    refine ⟨z, fun w' _ => ?_, z2, rfl⟩
    have z1 := z1 w'
    simp only [execOp, Sem.run_bind, Sem.run_pure] at z1 ⊢
    rw [z1]; rfl
  case unOp op xt x =>
    obtain ⟨d, h1, rfl, rfl, rfl⟩ := hv
    obtain ⟨r1, _⟩ := rd_ok h hgs x hc
    obtain ⟨z, z1, z2⟩ := unT_ok (P := E.P) r1 h1
    exact ⟨z, fun w' hw' => by simp [execOp, z1, hw'], z2, rfl⟩
  case convert src dst x =>
    obtain ⟨⟨c', l', t'⟩, h1, rfl, rfl, rfl⟩ := hv
    obtain ⟨r1, _⟩ := rd_ok h hgs x hc.1
    obtain ⟨z, z1, z2⟩ := cvtT_ok hE h r1 h1 hc.2
    exact ⟨z, fun w' hw' => by simp [execOp, z1, hw' rfl], z2, rfl⟩
  case slice t x lo hi mx =>
    obtain ⟨⟨c', l', t'⟩, h1, rfl, rfl, rfl⟩ := hv
    obtain ⟨c1, c2, c3, c4, c5⟩ := hc
    obtain ⟨r1, _⟩ := rd_ok h hgs x c1
    have ho : ∀ (oo : Option Operand), (∀ o, oo = some o → (rd g gs o).1) → OptRT w (stab base S0 g bk w.heap.size) bk g (oo.map fun o => (rd g gs o).2) (oo.map a.eval) := fun oo hoo => by
      cases oo with
      | none => trivial
      | some o => exact (rd_ok h hgs o (hoo o rfl)).1
    obtain ⟨z, z1, z2, z3⟩ := slcT_ok hE h r1 (ho lo c2) (ho hi c3) (ho mx c4) h1 c5
    exact ⟨z, fun w' hw' => by simp [execOp, z1, hw'], z2, z3⟩
  case extract x i =>
    split at hv
    · rename_i ds hds
      simp only [Option.map_eq_some_iff, Prod.mk.injEq] at hv
      obtain ⟨d, h1, rfl, rfl, rfl⟩ := hv
      obtain ⟨r1, _⟩ := rd_ok h hgs x hc
      rw [hds] at r1
      obtain ⟨arr, e1, e2, e3⟩ := r1
      have hlt := (List.getElem?_eq_some_iff.1 h1).1
      have e4 : arr[i]? = some (arr.getD i undef) := by rw [Array.getD_eq_getD_getElem?, Array.getElem?_eq_getElem (by omega)]; rfl
      have e5 := e3 i d h1
      generalize arr.getD i undef = z at e4 e5
      exact ⟨z, fun w' _ => by simp [execOp, e1, Instr.extract, e4], e5, rfl⟩
    · cases hv
  case nilCheck x =>
    split at hv
    · rename_i s off ht
      split at hv
      · rename_i cs hbx
        simp only [Option.some.injEq, Prod.mk.injEq] at hv; obtain ⟨rfl, rfl, rfl⟩ := hv
        obtain ⟨r1, _⟩ := rd_ok h hgs x hc
        rw [ht] at r1
        obtain ⟨b, e1, e2⟩ := r1 cs hbx
        exact ⟨_, fun w' _ => by simp [execOp, e2] <;> rfl, fun cs' _ => ⟨b, e1, rfl⟩, rfl⟩
      · cases hv
    · rename_i cs ht
      simp only [Option.some.injEq, Prod.mk.injEq] at hv; obtain ⟨rfl, rfl, rfl⟩ := hv
      obtain ⟨r1, _⟩ := rd_ok h hgs x hc
      rw [ht] at r1
      generalize hvx : a.eval x = vx at r1
      cases r1 with
      | ref _ b off u hf hcc hr => exact ⟨_, fun w' _ => by simp [execOp, hvx] <;> rfl, .ref _ b off u hf hcc hr, rfl⟩
    · cases hv
  case build t parts =>
    split at hv
    · rename_i place ti c1 l1 ds1 hpl htab hds
      split at hv
      · rename_i c2 out hf
        simp only [Option.some.injEq, Prod.mk.injEq] at hv; obtain ⟨rfl, rfl, rfl⟩ := hv
        obtain ⟨k1, k2, k3⟩ := hc
        obtain ⟨e1, e2⟩ := rdDs_ok h hgs _ hds k1 l1 (fun s hs => hs)
        have hlen : ds1.length = parts.size := by rw [e1]; simp [buildHints]
        have hparts : ∀ (i : Nat) (p : Nat × D) (q : Nat × Value), ((parts.toList.map Prod.fst).zip ds1)[i]? = some p → (parts.map fun p => (p.1, a.eval p.2)).toList[i]? = some q →
            p.1 = q.1 ∧ Rep w (stab base S0 (frzs g l1) bk w.heap.size) p.2 q.2 := by
          intro i p q hp hq
          obtain ⟨p1, p2⟩ := p
          have hz := List.getElem?_zip_eq_some.1 hp
          simp only [List.getElem?_map] at hz
          simp only [Array.toList_map, List.getElem?_map] at hq
          cases hpi : parts.toList[i]? with
          | none => rw [hpi] at hq; cases hq
          | some pi =>
            rw [hpi] at hq hz
            simp only [Option.map_some, Option.some.injEq] at hq hz
            obtain ⟨rfl, hz2⟩ := hz
            subst hq
            refine ⟨rfl, ?_⟩
            exact e2 i p2 _ hz2 (by simp only [buildHints, List.getElem?_map, hpi, Option.map_some]; rfl)
        obtain ⟨v, v1, v2⟩ := run_build hE htab hpl k2 (w := w) (S := stab base S0 (frzs g l1) bk w.heap.size) (parts := (parts.toList.map Prod.fst).zip ds1) (vs := parts.map fun p => (p.1, a.eval p.2))
          (by simp [hlen]) hparts hf k3
        exact ⟨v, fun w' _ => by simp only [execOp, Sem.run_bind, v1, Result.andThen_ok, Sem.run_pure], v2, rfl⟩
      · cases hv
    · cases hv
  case call cl =>
    obtain ⟨callee, args, ats⟩ := cl
    cases callee with
    | builtin b =>
      obtain ⟨args⟩ := args
      obtain ⟨ats⟩ := ats
      simp only at hv
      split at hv
      · rename_i _ _ x t0
        simp only [Option.map_eq_some_iff, Prod.mk.injEq] at hv
        obtain ⟨d, h1, rfl, rfl, rfl⟩ := hv
        obtain ⟨r1, _⟩ := rd_ok h hgs x hc.1
        obtain ⟨z, z1, z2⟩ := lenT_ok hE r1 (ty := type) h1 (fun n e ⟨ti, ht1, ht2⟩ => by
          have := hc.2
          rw [ht1] at this
          obtain ⟨k, sz, by', z0, zc0, eq0⟩ := ti
          simp only at ht2; subst ht2
          exact this)
        refine ⟨z, fun w' _ => ?_, z2, rfl⟩
        simp only [execOp, resolve, invoke, builtin, Sem.run_bind, Sem.run_pure, Result.andThen_ok, List.map_toArray, List.map_cons, List.map_nil, z1]
      · rename_i _ _ x y
        simp only [Option.map_eq_some_iff, Prod.mk.injEq] at hv
        obtain ⟨⟨c', d⟩, h1, rfl, rfl, rfl⟩ := hv
        obtain ⟨r1, _⟩ := rd_ok h hgs x hc.1
        obtain ⟨r2, _⟩ := rd_ok h hgs y hc.2.1
        obtain ⟨z, z1, z2⟩ := min_ok r1 r2 h1 hc.2.2 ⟨ats⟩ type E.P
        refine ⟨z, fun w' _ => ?_, z2, rfl⟩
        simp only [execOp, resolve, invoke, builtin, Sem.run_bind, Sem.run_pure, Result.andThen_ok, List.map_toArray, List.map_cons, List.map_nil, z1]
      · rename_i _ _ x y
        simp only [Option.map_eq_some_iff, Prod.mk.injEq] at hv
        obtain ⟨⟨c', d⟩, h1, rfl, rfl, rfl⟩ := hv
        obtain ⟨r1, _⟩ := rd_ok h hgs x hc.1
        obtain ⟨r2, _⟩ := rd_ok h hgs y hc.2.1
        obtain ⟨z, z1, z2⟩ := max_ok r1 r2 h1 hc.2.2 ⟨ats⟩ type E.P
        refine ⟨z, fun w' _ => ?_, z2, rfl⟩
        simp only [execOp, resolve, invoke, builtin, Sem.run_bind, Sem.run_pure, Result.andThen_ok, List.map_toArray, List.map_cons, List.map_nil, z1]
      · cases hv
    | _ => simp at hv

theorem valOp_ok [Amb] (hE : E.Ok) (h : RB base S0 w0 N g a w bk) {gs : List Bool} (hgs : gs.all id = true) {o : Oper} {c : Prop} {l : List Nat} {t : T} (hv : valOp E g gs o.op = some (c, l, t)) (hc : c) :
    ∃ v, (execOp a.eval o).run E.P w = .ok (.value v) w ∧ RT w (stab base S0 (frzs g l) bk w.heap.size) bk (frzs g l) 0 t v ∧ t.plain = true := by
  obtain ⟨v, h1, h2⟩ := valOp_okB hE h hgs hv hc
  exact ⟨v, h1 w (fun _ => Below.refl _ _), h2⟩
end
end Ab

namespace Ab
open Go Go.RowKit

section
variable {base : Nat} {S0 : Nat → Nat → Prop} {w0 : World} {N : Nat} {g : Nat → T} {a : Act} {w : World} {bk : Pl → Option Nat} {E : Env}

/-- The general step, where several slots change. -/
theorem RB.coreG [Amb] (h : RB base S0 w0 N g a w bk) {w' : World} {a' : Act} {bk' : Pl → Option Nat} {g' : Nat → T} (ch : Nat → Prop) [DecidablePred ch]
    (hdef : a'.defers = []) (hN : a'.tmps.size = N) (htm : ∀ s, ¬ ch s → a'.tmps.getD s undef = a.tmps.getD s undef) (hg : ∀ s, ¬ ch s → g' s = g s) (hbel : Below base w w')
    (hrng : ∀ p b, bk' p = some b → base ≤ b ∧ b < w'.heap.size) (hinj : ∀ p q b, bk' p = some b → bk' q = some b → p = q)
    (hcell : ∀ b o, stab base S0 g bk w.heap.size b o → w'.cell? (at' b o) = w.cell? (at' b o))
    (hS : ∀ b o, stab base S0 g bk w.heap.size b o → stab base S0 g' bk' w'.heap.size b o)
    (hbk : ∀ p, ¬ ch p.1 → bk' p = bk p) (hblk : ∀ p b, ¬ ch p.1 → bk p = some b → w'.heap[b]? = w.heap[b]?)
    (href : ∀ s, ¬ ch s → ∀ r ∈ (g s).refs, ch r → Refine w w' bk bk' g g' r)
    (ht : ∀ s, ch s → RT w' (stab base S0 g' bk' w'.heap.size) bk' g' s (g' s) (a'.tmps.getD s undef))
    (hown : ∀ s, ch s → ∀ i m z es, (g' s).ownAt i = some (m, z, es) → ∀ b, bk' (s, i) = some b → Cont w' (stab base S0 g' bk' w'.heap.size) b z.cells.length es)
    (hbox : ∀ s, ch s → ∀ cs, (g' s).box? = some cs → Boxed w' (stab base S0 g' bk' w'.heap.size) bk' s cs) :
    RB base S0 w0 N g' a' w' bk' where
  amb := h.amb
  defers := hdef
  size := hN
  hb := h.hb
  below := h.below.trans hbel
  rng := hrng
  inj := hinj
  slots := fun s => by
    by_cases hs : ch s
    · exact ht s hs
    · rw [hg s hs, htm s hs]
      refine RT.frame hcell hS (h.slots s) (fun _ => ⟨hbk (s, 0) hs, fun b hb => .of_eq (hblk (s, 0) b hs hb)⟩) (fun r hr => ?_)
      by_cases hrd : ch r
      · exact href s hs r hr hrd
      · exact Refine.refl (hg r hrd) (fun i => hbk (r, i) hrd) (fun i b hb => .of_eq (hblk (r, i) b hrd hb))
  own := fun p m sz es ho b hb => by
    by_cases hp : ch p.1
    · exact hown p.1 hp p.2 m sz es ho b hb
    · rw [hg p.1 hp] at ho
      have hb' : bk p = some b := (hbk p hp) ▸ hb
      exact (h.own p m sz es ho b hb').mono (hblk p b hp hb') hcell hS
  box := fun s cs hb => by
    by_cases hs : ch s
    · exact hbox s hs cs hb
    · rw [hg s hs] at hb
      obtain ⟨b, arr, ty, h1, h2, h3, h4⟩ := h.box s cs hb
      refine ⟨b, arr, ty, (hbk (s, 0) hs).trans h1, (hblk (s, 0) b hs h1).trans h2, h3, fun i c hi => ?_⟩
      rw [show bk' (s, i + 1) = bk (s, i + 1) from hbk _ hs]
      exact (h4 i c hi).mono hcell hS (fun b' hb' => .of_eq (hblk (s, i + 1) b' hs hb'))

/-- What stays of a slot whose row is handed on. -/
def leftT (m : Bool) (z : D) (es : List D) : T := if m then .junk else .val (.slice z es)

theorem leftT_plain (m : Bool) (z : D) (es : List D) : (leftT m z es).plain = true := by cases m <;> rfl

theorem clr_some {bk : Pl → Option Nat} {d : Nat} {p : Pl} {b : Nat} (h : clr bk d p = some b) : p.1 ≠ d ∧ bk p = some b := by
  unfold clr at h
  split at h
  · cases h
  · exact ⟨by assumption, h⟩

/-- The row that slot s owns goes over to slot d, whose value heads it. -/
theorem RB.xfer [Amb] (h : RB base S0 w0 N g a w bk) {s d : Nat} {m : Bool} {z : D} {es : List D} {v : Value} (hd : d < N) (hsd : s ≠ d) (hgs : g s = .own m z es) (hno : ∀ s', s' ≠ d → d ∉ (g s').refs)
    (hv : Hdr w (bk (s, 0)) z.cells.length es.length v) :
    RB base S0 w0 N (upd (upd g s (leftT m z es)) d (.own m z es)) (a.put (some d) v) w (setb (clr (clr bk d) s) (d, 0) (bk (s, 0))) := by
  have hg' : ∀ s', s' ≠ s → s' ≠ d → upd (upd g s (leftT m z es)) d (.own m z es) s' = g s' := fun s' h1 h2 => by rw [upd_ne _ _ h2, upd_ne _ _ h1]
  have hgs' : upd (upd g s (leftT m z es)) d (.own m z es) s = leftT m z es := by rw [upd_ne _ _ hsd, upd_same]
  have hb' : ∀ p b, setb (clr (clr bk d) s) (d, 0) (bk (s, 0)) p = some b → (p = (d, 0) ∧ bk (s, 0) = some b) ∨ (p.1 ≠ d ∧ p.1 ≠ s ∧ bk p = some b) := fun p b hb => by
    unfold setb at hb
    split at hb
    · exact .inl ⟨by assumption, hb⟩
    · obtain ⟨h1, h2⟩ := clr_some hb
      obtain ⟨h3, h4⟩ := clr_some h2
      exact .inr ⟨h3, h1, h4⟩
  have hS : ∀ b o, stab base S0 g bk w.heap.size b o → stab base S0 (upd (upd g s (leftT m z es)) d (.own m z es)) (setb (clr (clr bk d) s) (d, 0) (bk (s, 0))) w.heap.size b o := by
    intro b o hs
    rcases hs with hs | ⟨h1, h2, h3⟩
    · exact .inl hs
    · refine .inr ⟨h1, h2, fun p hp => ?_⟩
      rcases hb' p b hp with ⟨rfl, hb⟩ | ⟨k1, k2, k3⟩
      · have := h3 (s, 0) hb
        rw [hgs] at this
        rw [upd_same]; exact this
      · rw [hg' _ k2 k1]; exact h3 p k3
  refine h.coreG (fun s' => s' = s ∨ s' = d) (by rw [put_defers]; exact h.defers) (by rw [put_size]; exact h.size) (fun s' hs' => ?_) (fun s' hs' => hg' s' (fun e => hs' (.inl e)) (fun e => hs' (.inr e)))
    (Below.refl _ _) (fun p b hb => ?_) (fun p q b hp hq => ?_) (fun _ _ _ => rfl) hS (fun p hp => ?_) (fun _ _ _ _ => rfl) (fun s' hs' r hr hch => ?_) (fun s' hs' => ?_) (fun s' hs' i m' z' es' ho b hb => ?_) (fun s' hs' cs hbx => ?_)
  · rw [getD_put a d s' v (by rw [h.size]; exact hd), if_neg (fun e => hs' (.inr e))]
  · rcases hb' p b hb with ⟨_, hb⟩ | ⟨_, _, hb⟩ <;> exact h.rng _ b hb
  · rcases hb' p b hp with ⟨e1, h1⟩ | ⟨k1, k2, h1⟩ <;> rcases hb' q b hq with ⟨e2, h2⟩ | ⟨k3, k4, h2⟩
    · rw [e1, e2]
    · exact absurd (by rw [← h.inj _ _ b h1 h2]) k4
    · exact absurd (by rw [h.inj _ _ b h1 h2]) k2
    · exact h.inj p q b h1 h2
  · have h1 : p.1 ≠ s := fun e => hp (.inl e)
    have h2 : p.1 ≠ d := fun e => hp (.inr e)
    simp only [setb, clr, h1, h2, if_false]
    rw [if_neg (fun e => h2 (by rw [e]))]
  · rcases hch with rfl | rfl
    · exact Refine.gone (by rw [hgs']; exact leftT_plain m z es)
    · exact absurd hr (hno s' (fun e => hs' (.inr e)))
  · by_cases hsd' : s' = d
    · subst hsd'
      rw [upd_same, getD_put a s' s' v (by rw [h.size]; exact hd), if_pos rfl]
      show Hdr w (setb _ _ _ (s', 0)) _ _ _
      simp only [setb, if_true]; exact hv
    · rcases hs' with rfl | hh
      · rw [hgs', getD_put a d s' v (by rw [h.size]; exact hd), if_neg hsd']
        cases m with
        | true => trivial
        | false =>
          have h0 := h.slots s'
          rw [hgs] at h0
          have hr := own_rep h (p := (s', 0)) (by show (g s').ownAt 0 = _; rw [hgs]; rfl) h0
          exact hr.mono (fun _ _ _ => rfl) hS
      · exact absurd hh hsd'
  · by_cases hsd' : s' = d
    · subst hsd'
      rw [upd_same] at ho
      cases i with
      | succ i => simp [T.ownAt] at ho
      | zero =>
        simp only [T.ownAt, Option.some.injEq, Prod.mk.injEq] at ho; obtain ⟨rfl, rfl, rfl⟩ := ho
        simp only [setb, if_true] at hb
        exact (h.own (s, 0) m z es (by show (g s).ownAt 0 = _; rw [hgs]; rfl) b hb).mono rfl (fun _ _ _ => rfl) hS
    · rcases hs' with rfl | hh
      · rw [hgs', plain_own (leftT_plain m z es)] at ho; cases ho
      · exact absurd hh hsd'
  · by_cases hsd' : s' = d
    · subst hsd'; rw [upd_same] at hbx; cases hbx
    · rcases hs' with rfl | hh
      · rw [hgs', plain_box (leftT_plain m z es)] at hbx; cases hbx
      · exact absurd hh hsd'

/-- The row that slot d owns is written behind its end, and slot d heads more of it. -/
theorem RB.grow [Amb] (h : RB base S0 w0 N g a w bk) {d : Nat} {m : Bool} {z : D} {es es' : List D} {v : Value} {w' : World} {b : Nat} (hd : d < N) (hgd : g d = .own m z es) (hb : bk (d, 0) = some b)
    (hno : ∀ s', s' ≠ d → d ∉ (g s').refs)
    (hbel : Below base w w') (hsz : w.heap.size = w'.heap.size) (hoth : ∀ k, k ≠ b → w'.heap[k]? = w.heap[k]?) (hcell : ∀ o, o < es.length * z.cells.length → w'.cell? (at' b o) = w.cell? (at' b o))
    (hle : es.length ≤ es'.length) (hv : Hdr w' (some b) z.cells.length es'.length v)
    (hcont : ∀ S', (∀ x o, stab base S0 g bk w.heap.size x o → S' x o) → Cont w' S' b z.cells.length es') :
    RB base S0 w0 N (upd g d (.own m z es')) (a.put (some d) v) w' bk := by
  have hS : ∀ x o, stab base S0 g bk w.heap.size x o → stab base S0 (upd g d (.own m z es')) bk w'.heap.size x o := by
    intro x o hs
    rcases hs with hs | ⟨h1, h2, h3⟩
    · exact .inl hs
    · refine .inr ⟨h1, hsz ▸ h2, fun p hp => ?_⟩
      have := h3 p hp
      by_cases hpd : p.1 = d
      · obtain ⟨p1, p2⟩ := p
        simp only at hpd; subst hpd
        rw [upd_same]
        rw [hgd] at this
        cases p2 with
        | succ i => simp [T.ownAt, limOf] at this
        | zero =>
          cases m
          · simp only [T.ownAt, limOf] at this ⊢
            exact Nat.lt_of_lt_of_le this (Nat.mul_le_mul_right _ hle)
          · simp [T.ownAt, limOf] at this
      · rw [upd_ne _ _ hpd]; exact this
  have hcs : ∀ x o, stab base S0 g bk w.heap.size x o → w'.cell? (at' x o) = w.cell? (at' x o) := by
    intro x o hs
    by_cases hx : x = b
    · subst hx
      rcases hs with hs | ⟨h1, h2, h3⟩
      · have := (h.rng _ _ hb).1; omega
      · have := h3 (d, 0) hb
        rw [hgd] at this
        cases m
        · exact hcell o this
        · simp [T.ownAt, limOf] at this
    · exact World.cell?_of_block (w := w) (hoth x hx)
  refine h.coreG (fun s' => s' = d) (by rw [put_defers]; exact h.defers) (by rw [put_size]; exact h.size) (fun s' hs' => by rw [getD_put a d s' v (by rw [h.size]; exact hd), if_neg hs']) (fun s' hs' => upd_ne _ _ hs') hbel
    (fun p x hp => hsz ▸ h.rng p x hp) h.inj hcs hS (fun _ _ => rfl) (fun p x hp hx => hoth x (fun e => hp (by rw [h.inj p (d, 0) x hx (e ▸ hb)]))) (fun s' hs' r hr hch => ?_) (fun s' hs' => ?_) (fun s' hs' i m' z' es'' ho x hx => ?_) (fun s' hs' cs hbx => ?_)
  · subst hch; exact absurd hr (hno s' hs')
  · subst hs'
    rw [upd_same, getD_put a s' s' v (by rw [h.size]; exact hd), if_pos rfl]
    show Hdr w' (bk (s', 0)) _ _ _
    rw [hb]; exact hv
  · subst hs'
    rw [upd_same] at ho
    cases i with
    | succ i => simp [T.ownAt] at ho
    | zero =>
      simp only [T.ownAt, Option.some.injEq, Prod.mk.injEq] at ho; obtain ⟨rfl, rfl, rfl⟩ := ho
      rw [hb] at hx; simp only [Option.some.injEq] at hx; subst hx
      exact hcont _ hS
  · subst hs'; rw [upd_same] at hbx; cases hbx
end
end Ab

namespace Ab
open Go Go.RowKit

section
variable {base : Nat} {S0 : Nat → Nat → Prop} {w0 : World} {N : Nat} {g : Nat → T} {a : Act} {w : World} {bk : Pl → Option Nat} {E : Env} {P : Program}

theorem HC.set {w : World} {b : Nat} {arr arr' : Array Value} {ty : TypeId} (h : HC w b arr ty) (hs : arr'.size = arr.size) : HC (w.setRow b arr') b arr' ty := by
  rcases h with h | h
  · exact .inl (setRow_heap w b arr arr' ty _ h)
  · refine .inr ?_
    rw [hs]
    exact setRow_heap w b arr arr' ty _ h

theorem run_storeCells_fz (P : Program) (g o : Nat) (t : TypeId) (fz : Nat × Nat) : ∀ (vs : List Value) (i : Nat) (cur : Array Value) (w : World), w.heap[g]? = some (.cells cur t fz) → cur.size ≤ fz.1 → o + i + vs.length ≤ cur.size → (∀ v ∈ vs, v.oneCell' = true) →
    (storeCells ⟨g, o, none⟩ vs i).run P w = .ok () (w.setRow g (cur.toList.take (o + i) ++ vs ++ cur.toList.drop (o + i + vs.length)).toArray)
  | [], i, cur, w, hg, _, _, _ => by
    simp only [storeCells, List.append_nil, List.length_nil, Nat.add_zero, List.take_append_drop, Array.toArray_toList]
    rw [setRow_self w g cur t fz hg]
    rfl
  | v :: rest, i, cur, w, hg, hfz, hl, h1 => by
    have hi : o + i < cur.size := by simp at hl; omega
    have hadd : (⟨g, o, none⟩ : Addr).add i = ⟨g, o + i, none⟩ := by unfold Addr.add; split <;> simp_all
    have hcell : w.cell? ⟨g, o + i, none⟩ = some cur[o + i] := by simp [World.cell?, hg, hi]
    have hfro : w.frozen? ⟨g, o + i, none⟩ = false := by
      obtain ⟨lo, hi'⟩ := fz
      simp only [World.frozen?, hg, Bool.and_eq_false_iff, decide_eq_false_iff_not]
      left
      simp only at hfz
      omega
    have hst : (store ((⟨g, o, none⟩ : Addr).add i) v).run P w = .ok () (w.setRow g (cur.setIfInBounds (o + i) v)) := by
      rw [hadd, run_store P w _ v _ (h1 v (by simp)), hcell]
      simp [hfro, setCell_eq_setRow w g (o + i) cur t fz v hg]
    have ih := run_storeCells_fz P g o t fz rest (i + 1) (cur.setIfInBounds (o + i) v) (w.setRow g (cur.setIfInBounds (o + i) v)) (setRow_heap w g cur _ t _ hg) (by simpa using hfz) (by simp at hl ⊢; omega) (fun x hx => h1 x (by simp [hx]))
    simp only [storeCells, Sem.run_bind, hst, Result.andThen_ok, ih, setRow_setRow]
    congr 3
    have e := list_seg_step cur.toList (o + i) v rest (by simp at hl ⊢; omega)
    simpa [Array.toList_setIfInBounds, Nat.add_assoc] using e

theorem run_storeCells_hc (P : Program) (g o : Nat) (t : TypeId) (vs : List Value) (i : Nat) (cur : Array Value) (w : World) (hg : HC w g cur t) (hl : o + i + vs.length ≤ cur.size) (h1 : ∀ v ∈ vs, v.oneCell' = true) :
    (storeCells ⟨g, o, none⟩ vs i).run P w = .ok () (w.setRow g (cur.toList.take (o + i) ++ vs ++ cur.toList.drop (o + i + vs.length)).toArray) := by
  rcases hg with hg | hg
  · exact run_storeCells_at (P := P) g o t vs i cur w hg hl h1
  · exact run_storeCells_fz P g o t _ vs i cur w hg (Nat.le_refl _) hl h1

theorem run_append_room' (t ty e : TypeId) (i : TypeInfo) (ht : P.underlying t = some (.slice e)) (hi : P.info? e = some i)
    (g sLen sCap : Nat) (cur : Array Value) (ty' : TypeId) (hg : HC w g cur ty')
    (a : Addr) (m c : Nat) (news : List Value) (hl : news.length = m * i.size) (hnews : ∀ j u, news[j]? = some u → w.cell? (a.add j) = some u) (h1 : ∀ u ∈ news, u.oneCell' = true)
    (hroom : sLen + m ≤ sCap) (hfit : sLen * i.size + news.length ≤ cur.size) :
    (Builtin.append_ #[t, t] ty #[.slice (some ⟨g, 0, none⟩) sLen sCap, .slice (some a) m c]).run P w =
      .ok (.slice (some ⟨g, 0, none⟩) (sLen + m) sCap) (w.setRow g (cur.toList.take (sLen * i.size) ++ news ++ cur.toList.drop (sLen * i.size + news.length)).toArray) := by
  have hf := run_firstCells_some (P := P) w i.size m a m c news hl hnews
  have hst := run_storeCells_hc P g (sLen * i.size) ty' news 0 cur w hg (by simpa using hfit) h1
  simp only [Nat.add_zero] at hst
  simp [Builtin.append_, run_underlying ht, Go.sizeOf, typeInfo, hi, Builtin.lenOf, hroom, hf, Addr.add_lit, hst]

/-- Nothing is appended. -/
theorem run_append_zero (t ty e : TypeId) (i : TypeInfo) (ht : P.underlying t = some (.slice e)) (hi : P.info? e = some i)
    (o : Option Addr) (sLen sCap : Nat) (hs : sLen ≤ sCap) (x : Option Addr) (c : Nat) :
    (Builtin.append_ #[t, t] ty #[.slice o sLen sCap, .slice x 0 c]).run P w = .ok (.slice o sLen sCap) w := by
  cases o <;> cases x <;> simp [Builtin.append_, run_underlying ht, Go.sizeOf, typeInfo, hi, Builtin.lenOf, hs, Builtin.firstCells, loadCells, loadCellsFrom, storeCells]

theorem Cont.more {S S' : Nat → Nat → Prop} {w w' : World} {b' sz n m : Nat} {es es2 : List D} {arr arr' : Array Value} {ty' : TypeId} {val : Nat → Value}
    (h1 : ∀ e ∈ es, e.cells.length = sz ∧ ∀ c ∈ e.cells, c.flat = true) (h2 : ∀ e ∈ es2, e.cells.length = sz ∧ ∀ c ∈ e.cells, c.flat = true) (hn : es.length = n) (hm : es2.length = m)
    (k1 : ∀ i e j c, es[i]? = some e → e.cells[j]? = some c → Rep w S c (arr.getD (i * sz + j) undef))
    (k2 : ∀ i e j c, es2[i]? = some e → e.cells[j]? = some c → Rep w S c (val (i * sz + j)))
    (hc : ∀ x o, S x o → w'.cell? (at' x o) = w.cell? (at' x o)) (hS : ∀ x o, S x o → S' x o)
    (hh : HC w' b' arr' ty') (hsz : (n + m) * sz ≤ arr'.size)
    (a1 : ∀ k, k < n * sz → arr'.getD k undef = arr.getD k undef) (a2 : ∀ k, k < m * sz → arr'.getD (n * sz + k) undef = val k) : Cont w' S' b' sz (es ++ es2) := by
  refine ⟨fun e he => ?_, arr', ty', hh, by rw [List.length_append, hn, hm]; exact hsz, fun i e j c he hj => ?_⟩
  · rcases List.mem_append.1 he with he | he
    · exact h1 e he
    · exact h2 e he
  · have hj' := (List.getElem?_eq_some_iff.1 hj).1
    by_cases hi : i < es.length
    · rw [List.getElem?_append_left hi] at he
      have hl := (h1 e (List.mem_of_getElem? he)).1
      have : (i + 1) * sz ≤ n * sz := Nat.mul_le_mul_right _ (by omega)
      rw [Nat.add_mul] at this
      rw [a1 _ (by omega)]
      exact (k1 i e j c he hj).mono hc hS
    · rw [List.getElem?_append_right (by omega)] at he
      have hl := (h2 e (List.mem_of_getElem? he)).1
      have hlt := (List.getElem?_eq_some_iff.1 he).1
      have : (i - es.length + 1) * sz ≤ m * sz := Nat.mul_le_mul_right _ (by omega)
      rw [Nat.add_mul] at this
      have e1 : i * sz + j = n * sz + ((i - es.length) * sz + j) := by
        have : i * sz = (n + (i - es.length)) * sz := by congr 1; omega
        rw [this, Nat.add_mul]; omega
      rw [e1, a2 _ (by omega)]
      exact (k2 _ e j c he hj).mono hc hS

/-- The cells of a slice, one after the other. -/
def flatV (u : Nat → Nat → Value) (n sz : Nat) : List Value := (List.range (n * sz)).map fun k => u (k / sz) (k % sz)

theorem flatV_length (u : Nat → Nat → Value) (n sz : Nat) : (flatV u n sz).length = n * sz := by simp [flatV]
theorem flatV_get (u : Nat → Nat → Value) {n sz k : Nat} (hk : k < n * sz) : (flatV u n sz)[k]? = some (u (k / sz) (k % sz)) := by simp [flatV, hk]

theorem divmod {i j sz : Nat} (h : j < sz) : (i * sz + j) / sz = i ∧ (i * sz + j) % sz = j := by
  constructor
  · rw [Nat.mul_comm, Nat.mul_add_div (by omega), Nat.div_eq_of_lt h]; omega
  · rw [Nat.mul_comm, Nat.mul_add_mod, Nat.mod_eq_of_lt h]

/-- An append to the row that slot d owns. -/
theorem RB.append [Amb] (hE : E.Ok) (h : RB base S0 w0 N g a w bk) {d t e ty : Nat} {ti tie : TI} (htab : E.tab t = some ti) (hk : ti.key = .slice e) (hte : E.tab e = some tie)
    {m : Bool} {z z2 : D} {es es2 : List D} {u : Value} (hd : d < N) (hgd : g d = .own m z es) (hno : ∀ s', s' ≠ d → d ∉ (g s').refs) (hz : z.cells.length = tie.size) (hz2 : z2.cells.length = tie.size) (hpos : 0 < tie.size)
    (hu : Rep w (stab base S0 g bk w.heap.size) (.slice z2 es2) u) (hlen : (es.length + es2.length) * tie.bytes ≤ 140737488355328) (hl63 : es.length + es2.length ≤ maxLen) :
    ∃ v' w' bk', (Builtin.append_ #[t, t] ty #[a.tmps.getD d undef, u]).run E.P w = .ok v' w' ∧ RB base S0 w0 N (upd g d (.own m z (es ++ es2))) (a.put (some d) v') w' bk' := by
  obtain ⟨inf, i1, i2, i3, i4⟩ := (hE.2 _ _ hte).size_eq
  have hu1 := (hE.2 _ _ htab).slice hk
  have h0 := h.slots d
  rw [hgd] at h0
  have hsz0 : inf.size = z.cells.length := by rw [i2, hz]
  have hput : a.put (some d) (a.tmps.getD d undef) = a := by
    simp only [Act.put]
    have : a.tmps.setIfInBounds d (a.tmps.getD d undef) = a.tmps := by
      apply Array.ext_getElem?
      intro j
      rw [Array.getElem?_setIfInBounds]
      split
      · rename_i hj; subst hj
        rw [h.size, if_pos hd, Array.getD_eq_getD_getElem?, Array.getElem?_eq_getElem (by rw [h.size]; exact hd)]; rfl
      · rfl
    rw [this]
  -- what is appended
  obtain ⟨x, c, m2, u2, rfl, hm2, hcell2, hsz2, hrep2⟩ : ∃ (x : Option Addr) (c m2 : Nat) (u2 : Nat → Nat → Value), u = .slice x m2 c ∧ m2 = es2.length ∧
      (es2 = [] ∨ ∃ ad, x = some ad ∧ ∀ j, j < m2 * inf.size → w.cell? (ad.add j) = some (u2 (j / inf.size) (j % inf.size))) ∧
      (∀ e ∈ es2, e.cells.length = z.cells.length ∧ ∀ c ∈ e.cells, c.flat = true) ∧ (∀ i e j c, es2[i]? = some e → e.cells[j]? = some c → Rep w (stab base S0 g bk w.heap.size) c (u2 i j)) := by
    cases hu with
    | nil _ x c hc => exact ⟨x, c, 0, fun _ _ => undef, rfl, rfl, .inl rfl, fun e he => by simp at he, fun i e j c hi => by simp at hi⟩
    | slice _ sz hsz _ b off cap u2 hlen hcap hall hcl hr =>
      have hs : sz = inf.size := by rw [hsz, hz2, i2]
      subst hs
      refine ⟨_, cap, es2.length, u2, rfl, rfl, ?_, fun e he => by rw [← hsz0]; exact hall e he, hr⟩
      by_cases hes : es2 = []
      · exact .inl hes
      · refine .inr ⟨_, rfl, fun j hj => ?_⟩
        have hp : 0 < inf.size := by omega
        have hj1 : j / inf.size < es2.length := Nat.div_lt_of_lt_mul (by rw [Nat.mul_comm]; exact hj)
        have hj2 : j % inf.size < inf.size := Nat.mod_lt _ hp
        have hg1 := List.getElem?_eq_getElem hj1
        have hl1 := (hall _ (List.mem_of_getElem? hg1)).1
        have hg2 := List.getElem?_eq_getElem (l := (es2[j / inf.size]'hj1).cells) (i := j % inf.size) (by omega)
        have := (hcl _ _ _ _ hg1 hg2).2
        rw [add_at]
        have e1 : off + j = off + j / inf.size * inf.size + j % inf.size := by
          have := Nat.div_add_mod j inf.size
          rw [Nat.mul_comm] at this; omega
        rw [e1]; exact this
  subst hm2
  -- nothing
  rcases hcell2 with hnil | ⟨ad, rfl, hcell2⟩
  · subst hnil
    obtain ⟨o, cap, hv, _, hcap⟩ := Hdr.len h0
    refine ⟨_, w, bk, by rw [hv]; exact run_append_zero t ty e inf hu1 i1 o es.length cap hcap x c, ?_⟩
    rw [← hv, hput, List.append_nil]
    have : upd g d (.own m z es) = g := by funext s; unfold upd; split; · rename_i hs; rw [hs, hgd]
                                           · rfl
    rw [this]; exact h
  have hone : ∀ y ∈ flatV u2 es2.length inf.size, y.oneCell' = true := fun y hy => by
    obtain ⟨k, hk, rfl⟩ := List.mem_map.1 hy
    have hk' : k < es2.length * inf.size := by simpa using hk
    have hp : 0 < inf.size := by omega
    have hj1 : k / inf.size < es2.length := Nat.div_lt_of_lt_mul (by rw [Nat.mul_comm]; exact hk')
    have hj2 : k % inf.size < inf.size := Nat.mod_lt _ hp
    have hg1 := List.getElem?_eq_getElem hj1
    have hl1 := hsz2 _ (List.mem_of_getElem? hg1)
    have hg2 := List.getElem?_eq_getElem (l := (es2[k / inf.size]'hj1).cells) (i := k % inf.size) (by rw [hl1.1]; omega)
    exact (hrep2 _ _ _ _ hg1 hg2).oneCell (hl1.2 _ (List.mem_of_getElem? hg2))
  have hnews : ∀ j y, (flatV u2 es2.length inf.size)[j]? = some y → w.cell? (ad.add j) = some y := fun j y hj => by
    have hlt := (List.getElem?_eq_some_iff.1 hj).1
    rw [flatV_length] at hlt
    rw [flatV_get u2 hlt] at hj; simp at hj; subst hj
    exact hcell2 j hlt
  have hval : ∀ i e j c, es2[i]? = some e → e.cells[j]? = some c → Rep w (stab base S0 g bk w.heap.size) c ((flatV u2 es2.length inf.size).getD (i * z.cells.length + j) undef) := fun i e j c hi hj => by
    have hl1 := (hsz2 e (List.mem_of_getElem? hi)).1
    have hjl := (List.getElem?_eq_some_iff.1 hj).1
    have hil := (List.getElem?_eq_some_iff.1 hi).1
    have hb1 : (i + 1) * inf.size ≤ es2.length * inf.size := Nat.mul_le_mul_right _ hil
    rw [Nat.add_mul] at hb1
    rw [← hsz0, List.getD_eq_getElem?_getD, flatV_get u2 (by omega), (divmod (by omega)).1, (divmod (by omega)).2]
    exact hrep2 i e j c hi hj
  by_cases hm0 : es2.length = 0
  · have hnil : es2 = [] := List.eq_nil_of_length_eq_zero hm0
    subst hnil
    obtain ⟨o, cap, hv, _, hcap⟩ := Hdr.len h0
    refine ⟨_, w, bk, by rw [hv]; exact run_append_zero t ty e inf hu1 i1 o es.length cap hcap _ c, ?_⟩
    rw [← hv, hput, List.append_nil]
    have : upd g d (.own m z es) = g := by funext s; unfold upd; split; · rename_i hs; rw [hs, hgd]
                                           · rfl
    rw [this]; exact h
  -- a new row
  have grown : ∀ (old : Nat) (arr : Array Value) (olds : List Value), old < es.length + es2.length → olds.length = es.length * inf.size → (∀ k, k < es.length * inf.size → olds.getD k undef = arr.getD k undef) →
      (∀ i e j c, es[i]? = some e → e.cells[j]? = some c → Rep w (stab base S0 g bk w.heap.size) c (arr.getD (i * z.cells.length + j) undef)) → (∀ e ∈ es, e.cells.length = z.cells.length ∧ ∀ c ∈ e.cells, c.flat = true) →
      (Builtin.append_ #[t, t] ty #[a.tmps.getD d undef, .slice (some ad) es2.length c]).run E.P w = .ok (.slice (some ⟨w.heap.size, 0, none⟩) (es.length + es2.length) (grownCap w (es.length + es2.length) old e))
        (w.drew.alloc (.cells (olds.toArray ++ (flatV u2 es2.length inf.size).toArray ++ Builtin.zeroCells tie.zero.cells (grownCap w (es.length + es2.length) old e - (es.length + es2.length))) e)) →
      ∃ v' w' bk', (Builtin.append_ #[t, t] ty #[a.tmps.getD d undef, .slice (some ad) es2.length c]).run E.P w = .ok v' w' ∧ RB base S0 w0 N (upd g d (.own m z (es ++ es2))) (a.put (some d) v') w' bk' := by
    intro old arr olds hold hol ho hr1 hr2 hrun
    refine ⟨_, _, setb (clr bk d) (d, 0) (some w.heap.size), hrun, ?_⟩
    have hge := grownCap_ge w (es.length + es2.length) old e
    have hcm := grownCap_le_maxLen w (es.length + es2.length) old e hl63
    have hzsz : tie.zero.cells.size = tie.size := by
      have := (hE.2 _ _ hte).zeroL w (fun _ _ => True)
      rw [this.1, (hE.2 _ _ hte).len]
    have hsize : (olds.toArray ++ (flatV u2 es2.length inf.size).toArray ++ Builtin.zeroCells tie.zero.cells (grownCap w (es.length + es2.length) old e - (es.length + es2.length))).size = grownCap w (es.length + es2.length) old e * inf.size := by
      simp only [Array.size_append, List.size_toArray, size_zeroCells, hzsz, hol, flatV_length, ← i2, ← Nat.add_mul]
      congr 1; omega
    have hnew : (w.drew.alloc (.cells (olds.toArray ++ (flatV u2 es2.length inf.size).toArray ++ Builtin.zeroCells tie.zero.cells (grownCap w (es.length + es2.length) old e - (es.length + es2.length))) e)).heap[w.heap.size]? =
        some (.cells (olds.toArray ++ (flatV u2 es2.length inf.size).toArray ++ Builtin.zeroCells tie.zero.cells (grownCap w (es.length + es2.length) old e - (es.length + es2.length))) e) := heap_alloc_new w.drew _
    have hbel : Below w.heap.size w (w.drew.alloc (.cells (olds.toArray ++ (flatV u2 es2.length inf.size).toArray ++ Builtin.zeroCells tie.zero.cells (grownCap w (es.length + es2.length) old e - (es.length + es2.length))) e)) :=
      ((Below.refl _ _).drew).alloc (Nat.le_refl _) _
    refine h.putOwner hd hbel hno (fun b hb => by simp at hb; subst hb; simp) ?_ ?_ ?_
    · show Hdr _ (setb _ _ _ (d, 0)) _ _ _
      simp only [setb, if_true]
      refine .inr ⟨w.heap.size, _, _, e, rfl, by rw [List.length_append], .inl hnew, by rw [hsize, hsz0], by rw [List.length_append]; exact hge, hcm⟩
    · intro i m' z' es' hoa b hb
      cases i with
      | succ i => simp [T.ownAt] at hoa
      | zero =>
        simp only [T.ownAt, Option.some.injEq, Prod.mk.injEq] at hoa; obtain ⟨rfl, rfl, rfl⟩ := hoa
        simp only [setb, if_true, Option.some.injEq] at hb; subst hb
        refine Cont.more (val := fun k => (flatV u2 es2.length inf.size).getD k undef) hr2 hsz2 rfl rfl hr1 hval (fun x o hs => below_cell hbel (stab_lt h hs)) (fun x o hs => stab_new h _ (fun b hb => by simp at hb; omega) hbel.size hs) (.inl hnew) (by rw [hsize, ← hsz0]; exact Nat.mul_le_mul_right _ hge) (fun k hk => ?_) (fun k hk => ?_)
        · rw [← hsz0] at hk
          rw [← ho k hk, Array.getD_eq_getD_getElem?, Array.getElem?_append_left (by simp [hol, flatV_length]; omega), Array.getElem?_append_left (by simp [hol]; omega), List.getD_eq_getElem?_getD]; simp
        · rw [← hsz0] at hk ⊢
          rw [Array.getD_eq_getD_getElem?, Array.getElem?_append_left (by simp [hol, flatV_length]; omega), Array.getElem?_append_right (by simp [hol]), List.getD_eq_getElem?_getD]
          simp [hol]
    · intro cs hbx; cases hbx
  rcases h0 with ⟨hn, o, hv⟩ | ⟨b, cap, arr, ty', hob, hv, hh, hasz, hn, hcm⟩
  · have hes : es = [] := List.eq_nil_of_length_eq_zero hn
    subst hes
    refine grown 0 #[] [] (by simp; omega) (by simp) (fun k hk => by simp at hk) (fun i e j c hi => by simp at hi) (fun e he => by simp at he) ?_
    rw [hv]
    simp only [List.length_nil, Nat.zero_add] at hlen hl63 ⊢
    cases o with
    | none =>
      have := run_append_nil (P := E.P) w t ty e inf tie.zero hu1 i1 i4 ad es2.length c (flatV u2 es2.length inf.size) (flatV_length _ _ _) hnews (by omega) (by simp only [maxLen] at hl63; omega) (by rw [i3]; omega)
      rw [this]; simp
    | some oa =>
      have := run_append_grow (P := E.P) w t ty e inf tie.zero hu1 i1 i4 oa 0 0 [] (by simp) (fun j v hj => by simp at hj) ad es2.length c (flatV u2 es2.length inf.size) (flatV_length _ _ _) hnews (by omega) (by simp only [maxLen] at hl63; omega) (growslice_fits (by omega) (by rw [i3]; simpa using hlen))
      rw [this]; simp
  · obtain ⟨k1, arr2, ty2, k2, k3, k4⟩ := h.own (d, 0) m z es (by show (g d).ownAt 0 = _; rw [hgd]; rfl) b hob
    obtain ⟨rfl, rfl⟩ := hh.det k2
    by_cases hroom : es.length + es2.length ≤ cap
    · have hfit : es.length * inf.size + (flatV u2 es2.length inf.size).length ≤ arr.size := by rw [flatV_length, hasz, ← hsz0, ← Nat.add_mul]; exact Nat.mul_le_mul_right _ hroom
      have hr := run_append_room' (P := E.P) (w := w) t ty e inf hu1 i1 b es.length cap arr ty' hh ad es2.length c (flatV u2 es2.length inf.size) (flatV_length _ _ _) hnews hone hroom hfit
      have hother : ∀ k, k ≠ b → (w.setRow b (arr.toList.take (es.length * inf.size) ++ flatV u2 es2.length inf.size ++ arr.toList.drop (es.length * inf.size + (flatV u2 es2.length inf.size).length)).toArray).heap[k]? = w.heap[k]? := fun k hk => setRow_other w b k _ hk
      have hsize : ((arr.toList.take (es.length * inf.size) ++ flatV u2 es2.length inf.size ++ arr.toList.drop (es.length * inf.size + (flatV u2 es2.length inf.size).length)).toArray).size = arr.size := by
        rw [flatV_length] at hfit
        simp only [List.size_toArray, List.length_append, List.length_take, List.length_drop, Array.length_toList, flatV_length]; omega
      have hset := hh.set hsize
      have hleft : ∀ k, k < es.length * inf.size → ((arr.toList.take (es.length * inf.size) ++ flatV u2 es2.length inf.size ++ arr.toList.drop (es.length * inf.size + (flatV u2 es2.length inf.size).length)).toArray).getD k undef = arr.getD k undef := fun k hk => by
        rw [flatV_length] at hfit
        rw [Array.getD_eq_getD_getElem?, List.getElem?_toArray, List.getElem?_append_left (by simp; omega), List.getElem?_append_left (by simp; omega), List.getElem?_take, if_pos hk, Array.getD_eq_getD_getElem?, Array.getElem?_toList]
      refine ⟨_, _, bk, by rw [hv]; exact hr, ?_⟩
      refine h.grow (b := b) hd hgd hob hno ⟨rfl, rfl, rfl, by simp, fun k hk => hother k (fun e => by have := (h.rng _ _ hob).1; omega)⟩ (by simp) hother (fun o ho => ?_) (by simp) ?_ ?_
      · rw [hset.cell, hh.cell]
        rw [← hsz0] at ho
        have h3 := hleft o ho
        rw [flatV_length] at hfit
        rw [Array.getD_eq_getD_getElem?, Array.getD_eq_getD_getElem?, Array.getElem?_eq_getElem (by rw [hsize]; omega), Array.getElem?_eq_getElem (by omega)] at h3
        rw [Array.getElem?_eq_getElem (by rw [hsize]; omega), Array.getElem?_eq_getElem (by omega)]
        simp only [Option.getD_some] at h3; rw [h3]
      · refine .inr ⟨b, cap, _, ty', rfl, by rw [List.length_append], hset, by rw [hsize, hasz], by rw [List.length_append]; exact hroom, hcm⟩
      · intro S' hS'
        refine Cont.more (val := fun k => (flatV u2 es2.length inf.size).getD k undef) k1 hsz2 rfl rfl k4 hval (fun x o hs => ?_) hS' hset (by rw [hsize, hasz]; exact Nat.mul_le_mul_right _ hroom) (fun k hk => hleft k (by rw [hsz0]; exact hk)) (fun k hk => ?_)
        · by_cases hx : x = b
          · subst hx
            rcases hs with hs | ⟨h1, h2, h3⟩
            · have := (h.rng _ _ hob).1; omega
            · have h4 := h3 (d, 0) hob
              rw [hgd] at h4
              cases m
              · simp only [T.ownAt, limOf] at h4
                rw [hset.cell, hh.cell]
                rw [← hsz0] at h4
                have h5 := hleft o h4
                rw [flatV_length] at hfit
                rw [Array.getD_eq_getD_getElem?, Array.getD_eq_getD_getElem?, Array.getElem?_eq_getElem (by rw [hsize]; omega), Array.getElem?_eq_getElem (by omega)] at h5
                rw [Array.getElem?_eq_getElem (by rw [hsize]; omega), Array.getElem?_eq_getElem (by omega)]
                simp only [Option.getD_some] at h5; rw [h5]
              · simp [T.ownAt, limOf] at h4
          · exact World.cell?_of_block (w := w) (hother x hx)
        · rw [flatV_length] at hfit
          rw [← hsz0] at hk ⊢
          have hl1 : (arr.toList.take (es.length * inf.size)).length = es.length * inf.size := by simp; omega
          rw [Array.getD_eq_getD_getElem?, List.getElem?_toArray, List.getElem?_append_left (by rw [List.length_append, hl1, flatV_length]; omega), List.getElem?_append_right (by omega), hl1, Nat.add_sub_cancel_left, List.getD_eq_getElem?_getD]
    · have holds : ∀ j v, (arr.toList.take (es.length * inf.size))[j]? = some v → w.cell? ((⟨b, 0, none⟩ : Addr).add j) = some v := fun j v hj => by
        rw [List.getElem?_take] at hj
        split at hj
        · rw [Addr.add_lit, Nat.zero_add, show w.cell? ⟨b, j, none⟩ = _ from hh.cell j]; simpa using hj
        · cases hj
      have hlt : (arr.toList.take (es.length * inf.size)).length = es.length * inf.size := by
        have : es.length * inf.size ≤ arr.size := by rw [hasz, hsz0]; exact Nat.mul_le_mul_right _ hn
        simp; omega
      refine grown cap arr (arr.toList.take (es.length * inf.size)) (by omega) hlt (fun k hk => ?_) k4 k1 ?_
      · rw [List.getD_eq_getElem?_getD, List.getElem?_take, if_pos hk, Array.getD_eq_getD_getElem?, Array.getElem?_toList]
      · rw [hv]
        exact run_append_grow (P := E.P) w t ty e inf tie.zero hu1 i1 i4 ⟨b, 0, none⟩ es.length cap _ hlt holds ad es2.length c (flatV u2 es2.length inf.size) (flatV_length _ _ _) hnews (by omega) (by simp only [maxLen] at hl63; omega) (growslice_fits (by omega) (by rw [i3]; exact hlen))
end
end Ab

namespace Ab
open Go Go.RowKit

section
variable {base : Nat} {S0 : Nat → Nat → Prop} {w0 : World} {N : Nat} {g : Nat → T} {a : Act} {w : World} {bk : Pl → Option Nat} {E : Env} {P : Program}

/-- A new block of data becomes the local variable of slot d. -/
theorem RB.newBox [Amb] (h : RB base S0 w0 N g a w bk) {d : Nat} (hd : d < N) (hno : ∀ s', s' ≠ d → d ∉ (g s').refs) {cs : List C} {arr : Array Value} {ty : TypeId} (hsz : arr.size = cs.length)
    (hcs : ∀ i c, cs[i]? = some c → RC w (stab base S0 g bk w.heap.size) none c (arr.getD i undef)) :
    ∃ bk', RB base S0 w0 N (upd g d (.box cs)) (a.put (some d) (.pointer (some (at' w.heap.size 0)))) (w.alloc (.cells arr ty)) bk' := by
  have hbel : Below w.heap.size w (w.alloc (.cells arr ty)) := (Below.refl _ _).alloc (Nat.le_refl _) _
  have hst : ∀ b o, stab base S0 g bk w.heap.size b o → stab base S0 (upd g d (.box cs)) (setb (clr bk d) (d, 0) (some w.heap.size)) (w.alloc (.cells arr ty)).heap.size b o :=
    fun b o hs => stab_new h _ (fun b hb => by simp at hb; omega) hbel.size hs
  refine ⟨_, h.putOwner hd hbel hno (ob := some w.heap.size) (fun b hb => by simp at hb; subst hb; simp) ⟨w.heap.size, by simp [setb], rfl⟩ ?_ ?_⟩
  · intro i m z es ho b hb
    cases i with
    | zero => simp [T.ownAt] at ho
    | succ i => simp [setb, clr] at hb
  · intro cs' hb
    simp [T.box?] at hb; subst hb
    refine ⟨w.heap.size, arr, ty, by simp [setb], heap_alloc_new w _, hsz, fun i c hi => ?_⟩
    have : setb (clr bk d) (d, 0) (some w.heap.size) (d, i + 1) = none := by simp [setb, clr]
    rw [this]
    exact (hcs i c hi).mono (fun _ _ hs => below_cell hbel (stab_lt h hs)) hst (fun b hb => by cases hb)

/-- A new row becomes the row of slot d. -/
theorem RB.newRow [Amb] (h : RB base S0 w0 N g a w bk) {d : Nat} (hd : d < N) (hno : ∀ s', s' ≠ d → d ∉ (g s').refs) {m : Bool} {z : D} {es : List D} {arr : Array Value} {ty : TypeId} {cap : Nat} (hsz : arr.size = cap * z.cells.length)
    (hcap : es.length ≤ cap) (hm : cap ≤ maxLen) (h1 : ∀ e ∈ es, e.cells.length = z.cells.length ∧ ∀ c ∈ e.cells, c.flat = true)
    (h2 : ∀ i e j c, es[i]? = some e → e.cells[j]? = some c → Rep w (stab base S0 g bk w.heap.size) c (arr.getD (i * z.cells.length + j) undef)) :
    ∃ bk', RB base S0 w0 N (upd g d (.own m z es)) (a.put (some d) (.slice (some (at' w.heap.size 0)) es.length cap)) (w.alloc (.cells arr ty)) bk' := by
  have hbel : Below w.heap.size w (w.alloc (.cells arr ty)) := (Below.refl _ _).alloc (Nat.le_refl _) _
  have hst : ∀ b o, stab base S0 g bk w.heap.size b o → stab base S0 (upd g d (.own m z es)) (setb (clr bk d) (d, 0) (some w.heap.size)) (w.alloc (.cells arr ty)).heap.size b o :=
    fun b o hs => stab_new h _ (fun b hb => by simp at hb; omega) hbel.size hs
  refine ⟨_, h.putOwner hd hbel hno (ob := some w.heap.size) (fun b hb => by simp at hb; subst hb; simp) ?_ ?_ ?_⟩
  · show Hdr _ (setb _ _ _ (d, 0)) _ _ _
    simp only [setb, if_true]
    exact .inr ⟨_, cap, arr, ty, rfl, rfl, .inl (heap_alloc_new w _), hsz, hcap, hm⟩
  · intro i m' z' es' ho b hb
    cases i with
    | succ i => simp [T.ownAt] at ho
    | zero =>
      simp only [T.ownAt, Option.some.injEq, Prod.mk.injEq] at ho; obtain ⟨rfl, rfl, rfl⟩ := ho
      simp only [setb, if_true, Option.some.injEq] at hb; subst hb
      refine ⟨h1, arr, ty, .inl (heap_alloc_new w _), by rw [hsz]; exact Nat.mul_le_mul_right _ hcap, fun i e j c he hj => (h2 i e j c he hj).mono (fun _ _ hs => below_cell hbel (stab_lt h hs)) hst⟩
  · intro cs hb; cases hb

/-- The cells of a local variable once some of them are written. -/
def putC (cs : List C) (off : Nat) (ds : List D) : List C := cs.take off ++ ds.map .d ++ cs.drop (off + ds.length)

theorem putC_length {cs : List C} {off : Nat} {ds : List D} (h : off + ds.length ≤ cs.length) : (putC cs off ds).length = cs.length := by simp [putC]; omega

theorem putC_get {cs : List C} {off : Nat} {ds : List D} (h : off + ds.length ≤ cs.length) (i : Nat) :
    (putC cs off ds)[i]? = if off ≤ i ∧ i < off + ds.length then (ds[i - off]?).map C.d else cs[i]? := by
  unfold putC
  by_cases h1 : i < off
  · rw [if_neg (by omega), List.getElem?_append_left (by simp; omega), List.getElem?_append_left (by simp; omega), List.getElem?_take, if_pos h1]
  · by_cases h2 : i < off + ds.length
    · rw [if_pos (by omega), List.getElem?_append_left (by simp; omega), List.getElem?_append_right (by simp; omega), List.getElem?_map]
      congr 2; simp; omega
    · rw [if_neg (by omega), List.getElem?_append_right (by simp; omega), List.getElem?_drop]
      congr 1; simp; omega

theorem set_get {cur : List Value} {off : Nat} {vs : List Value} (h : off + vs.length ≤ cur.length) (i : Nat) :
    ((cur.take off ++ vs ++ cur.drop (off + vs.length)).toArray).getD i undef = if off ≤ i ∧ i < off + vs.length then vs.getD (i - off) undef else cur.toArray.getD i undef := by
  rw [Array.getD_eq_getD_getElem?, List.getElem?_toArray]
  by_cases h1 : i < off
  · rw [if_neg (by omega), List.getElem?_append_left (by simp; omega), List.getElem?_append_left (by simp; omega), List.getElem?_take, if_pos h1, Array.getD_eq_getD_getElem?, List.getElem?_toArray]
  · by_cases h2 : i < off + vs.length
    · rw [if_pos (by omega), List.getElem?_append_left (by simp; omega), List.getElem?_append_right (by simp; omega), List.getD_eq_getElem?_getD]
      congr 2; simp; omega
    · rw [if_neg (by omega), List.getElem?_append_right (by simp; omega), List.getElem?_drop, Array.getD_eq_getD_getElem?, List.getElem?_toArray]
      congr 2; simp; omega

theorem run_storeAt [Amb] (hE : E.Ok) {ty : TypeId} {ti : TI} (htab : E.tab ty = some ti) {b off : Nat} {arr : Array Value} {ty' : TypeId} {v : Value} (hh : HC w b arr ty') (hv : v.cells.size = ti.size)
    (hone : ∀ u ∈ v.cells.toList, u.oneCell' = true) (hfit : off + v.cells.size ≤ arr.size) :
    (Instr.storeAt ty (.pointer (some (at' b off))) v).run E.P w = .ok () (w.setRow b (arr.toList.take off ++ v.cells.toList ++ arr.toList.drop (off + v.cells.toList.length)).toArray) := by
  have h1 := (hE.2 _ _ htab).run_sizeOf w
  have h2 := run_storeCells_hc E.P b off ty' v.cells.toList 0 arr w hh (by simpa using hfit) hone
  simp only [Nat.add_zero] at h2
  simp [Instr.storeAt, Instr.sureAddr, storeVar, h1, hv, h2]

theorem cells_one {S : Nat → Nat → Prop} {d : D} {v : Value} (h : Rep w S d v) : ∀ u ∈ v.cells.toList, u.oneCell' = true := by
  intro u hu
  obtain ⟨h1, h2, h3⟩ := h.cells
  obtain ⟨i, hi⟩ := List.getElem?_of_mem hu
  have hlt := (List.getElem?_eq_some_iff.1 hi).1
  rw [Array.length_toList, h1] at hlt
  have hg := List.getElem?_eq_getElem hlt
  have h4 := h3 i _ hg
  have : v.cells.getD i undef = u := by rw [Array.getD_eq_getD_getElem?, ← Array.getElem?_toList, hi]; rfl
  rw [this] at h4
  exact h4.oneCell (h2 _ (List.mem_of_getElem? hg))

/-- The places of the cells that are written are no owners any more. -/
def clrC (bk : Pl → Option Nat) (s off n : Nat) : Pl → Option Nat := fun p => if p.1 = s ∧ off < p.2 ∧ p.2 ≤ off + n then none else bk p

theorem RB.storeBox [Amb] (h : RB base S0 w0 N g a w bk) {s off b : Nat} {cs : List C} {x : D} {v : Value} {arr : Array Value} {ty : TypeId} (hg : (g s).box? = some cs) (hb : bk (s, 0) = some b) (hh : w.heap[b]? = some (.cells arr ty (0, 0)))
    (hx : Rep w (stab base S0 g bk w.heap.size) x v) (hfit : off + x.cells.length ≤ cs.length) :
    ∃ bk', RB base S0 w0 N (upd g s (.box (putC cs off x.cells))) a (w.setRow b (arr.toList.take off ++ v.cells.toList ++ arr.toList.drop (off + v.cells.toList.length)).toArray) bk' := by
  obtain ⟨b', arr', ty', k1, k2, k3, k4⟩ := h.box s cs hg
  obtain rfl : b = b' := by rw [hb] at k1; simpa using k1
  rw [hh] at k2
  obtain ⟨rfl, rfl⟩ : arr = arr' ∧ ty = ty' := by simpa using k2
  obtain ⟨x1, x2, x3⟩ := hx.cells
  have hvl : v.cells.toList.length = x.cells.length := by rw [Array.length_toList, x1]
  have hfit' : off + v.cells.toList.length ≤ arr.toList.length := by rw [hvl, Array.length_toList (xs := arr), k3]; exact hfit
  have hset := setRow_heap w b arr (arr.toList.take off ++ v.cells.toList ++ arr.toList.drop (off + v.cells.toList.length)).toArray ty _ hh
  have hoth : ∀ k, k ≠ b → (w.setRow b (arr.toList.take off ++ v.cells.toList ++ arr.toList.drop (off + v.cells.toList.length)).toArray).heap[k]? = w.heap[k]? := fun k hk => setRow_other w b k _ hk
  have hlt : ∀ p c, clrC bk s off x.cells.length p = some c → bk p = some c := fun p c hc => by unfold clrC at hc; split at hc; cases hc; exact hc
  have hS : ∀ c o, stab base S0 g bk w.heap.size c o → stab base S0 (upd g s (.box (putC cs off x.cells))) (clrC bk s off x.cells.length) (w.setRow b (arr.toList.take off ++ v.cells.toList ++ arr.toList.drop (off + v.cells.toList.length)).toArray).heap.size c o := by
    intro c o hs
    rcases hs with hs | ⟨h1, h2, h3⟩
    · exact .inl hs
    · refine .inr ⟨h1, by simpa using h2, fun p hp => ?_⟩
      have h4 := h3 p (hlt p c hp)
      by_cases hps : p.1 = s
      · obtain ⟨p1, p2⟩ := p
        simp only at hps; subst hps
        rw [upd_same]
        rw [box_eq hg] at h4
        cases p2 with
        | zero => exact h4
        | succ i =>
          simp only [T.ownAt] at h4 ⊢
          rw [putC_get hfit, if_neg]
          · exact h4
          · intro hi
            unfold clrC at hp
            rw [if_pos (by simp; omega)] at hp; cases hp
      · rw [upd_ne _ _ hps]; exact h4
  have hnb : ∀ o, ¬ stab base S0 g bk w.heap.size b o := by
    intro o hs
    rcases hs with hs | ⟨h1, h2, h3⟩
    · have := (h.rng _ _ hb).1; omega
    · have := h3 (s, 0) hb
      rw [box_eq hg] at this; simp [T.ownAt, limOf] at this
  have hcs : ∀ c o, stab base S0 g bk w.heap.size c o → (w.setRow b (arr.toList.take off ++ v.cells.toList ++ arr.toList.drop (off + v.cells.toList.length)).toArray).cell? (at' c o) = w.cell? (at' c o) := by
    intro c o hs
    exact World.cell?_of_block (w := w) (hoth c (fun e => hnb o (e ▸ hs)))
  have hsame : ∀ c, Same w (w.setRow b (arr.toList.take off ++ v.cells.toList ++ arr.toList.drop (off + v.cells.toList.length)).toArray) c := by
    intro c arr2 ty2 hc2
    by_cases hc : c = b
    · subst hc
      obtain ⟨rfl, rfl⟩ := HC.det (.inl hh) hc2
      refine ⟨_, .inl hset, ?_⟩
      rw [Array.length_toList] at hfit'
      simp only [List.size_toArray, List.length_append, List.length_take, List.length_drop, Array.length_toList] at hfit' ⊢; omega
    · exact ⟨arr2, hc2.of (hoth c hc), rfl⟩
  refine ⟨clrC bk s off x.cells.length, h.coreG (fun s' => s' = s) h.defers h.size (fun _ _ => rfl) (fun s' hs' => upd_ne _ _ hs') ⟨rfl, rfl, rfl, by simp, fun k hk => hoth k (fun e => by have := (h.rng _ _ hb).1; omega)⟩
    (fun p c hp => by simpa using h.rng p c (hlt p c hp)) (fun p q c hp hq => h.inj p q c (hlt p c hp) (hlt q c hq)) hcs hS (fun p hp => by simp [clrC, hp]) (fun p c hp hc => hoth c (fun e => hp (by rw [h.inj p (s, 0) c hc (e ▸ hb)]))) (fun s' hs' r hr hch => ?_) (fun s' hs' => ?_) (fun s' hs' i m z es ho c hc => ?_) (fun s' hs' cs' hbx => ?_)⟩
  · subst hch
    refine ⟨fun i m z es ho => ?_, fun cs' hb' => ⟨cs, hg, by simp [clrC]⟩⟩
    rw [upd_same] at ho
    cases i with
    | zero => simp [T.ownAt] at ho
    | succ i =>
      simp only [T.ownAt] at ho
      rw [putC_get hfit] at ho
      split at ho
      · cases hxi : x.cells[i - off]? <;> rw [hxi] at ho <;> simp [C.own?] at ho
      · refine ⟨m, es, by rw [box_eq hg]; exact ho, rfl, by rename_i hi; simp [clrC]; omega, fun c _ => hsame c⟩
  · subst hs'
    rw [upd_same]
    have h0 := h.slots s'
    rw [box_eq hg] at h0
    obtain ⟨b2, e1, e2⟩ := h0
    exact ⟨b2, by simp [clrC, e1], e2⟩
  · subst hs'
    rw [upd_same] at ho
    cases i with
    | zero => simp [T.ownAt] at ho
    | succ i =>
      simp only [T.ownAt] at ho
      rw [putC_get hfit] at ho
      split at ho
      · cases hxi : x.cells[i - off]? <;> rw [hxi] at ho <;> simp [C.own?] at ho
      · have hcb := hlt _ _ hc
        have hne : c ≠ b := fun e => by have := h.inj (s', i + 1) (s', 0) c hcb (e ▸ hb); simp at this
        exact (h.own (s', i + 1) m z es (by rw [box_eq hg]; exact ho) c hcb).mono (hoth c hne) hcs hS
  · subst hs'
    rw [upd_same] at hbx
    simp [T.box?] at hbx; subst hbx
    refine ⟨b, _, ty, by simp [clrC, hb], hset, ?_, fun i c hi => ?_⟩
    · rw [putC_length hfit, ← k3]
      simp only [List.size_toArray, List.length_append, List.length_take, List.length_drop, Array.length_toList] at hfit' ⊢; omega
    · rw [set_get hfit']
      rw [putC_get hfit] at hi
      split at hi
      · rename_i hio
        rw [if_pos (by rw [hvl]; exact hio)]
        cases hxi : x.cells[i - off]? with
        | none => rw [hxi] at hi; cases hi
        | some c0 =>
          rw [hxi] at hi; simp at hi; subst hi
          refine ⟨?_, x2 _ (List.mem_of_getElem? hxi)⟩
          have h5 := x3 _ _ hxi
          rw [List.getD_eq_getElem?_getD, Array.getElem?_toList, ← Array.getD_eq_getD_getElem?]
          exact h5.mono hcs hS
      · rename_i hio
        rw [if_neg (by rw [hvl]; exact hio)]
        have : clrC bk s' off x.cells.length (s', i + 1) = bk (s', i + 1) := by simp [clrC]; omega
        rw [this]
        exact (k4 i c hi).mono hcs hS (fun c _ => hsame c)
end
end Ab
