/-
  What the functions compute that the statement reaches: contracts, and the plain laws between them. Conditions stand at each theorem.
-/
import Derived.Test.YtjpjndfdncalfaaDoorWalkOne
import Derived.Lib.ItoaLen
import Derived.Lib.Atoi
import Derived.Lib.Repeat
set_option linter.unusedVariables false
set_option linter.unusedSimpArgs false
/- Notices: the notices of a list, and what the functions of a stable sort do with a list. -/
namespace Pl
open Go Ab

structure Note where
  kind : Int
  patron : Int
  item : Int
  day : Int
deriving DecidableEq
def zn : Note := ⟨0, 0, 0, 0⟩
def encNote (n : Note) : D := .agg [.int .i64 n.kind, .int .i64 n.patron, .int .i64 n.item, .int .i64 n.day]
theorem encNote_eq (n : Note) : encNote n = .agg [.int .i64 n.kind, .int .i64 n.patron, .int .i64 n.item, .int .i64 n.day] := rfl
@[simp] theorem encNote_cells (n : Note) : (encNote n).cells = [.int .i64 n.kind, .int .i64 n.patron, .int .i64 n.item, .int .i64 n.day] := rfl
def noteL (l : List Note) : List D := l.map encNote
@[simp] theorem noteL_length (l : List Note) : (noteL l).length = l.length := by simp [noteL]
@[simp] theorem noteL_free (l : List Note) : (noteL l).all freeE = true := by
  simp only [noteL, List.all_map, List.all_eq_true]
  intro n _
  rfl
theorem noteL_get {l : List Note} {i : Nat} {x : Note} (h : l[i]? = some x) : (noteL l)[i]? = some (.agg [.int .i64 x.kind, .int .i64 x.patron, .int .i64 x.item, .int .i64 x.day]) := by simp [noteL, h, encNote]
theorem noteL_set (l : List Note) (i : Nat) (x : Note) : (noteL l).set i (.agg [.int .i64 x.kind, .int .i64 x.patron, .int .i64 x.item, .int .i64 x.day]) = noteL (l.set i x) := by simp [noteL, List.map_set, encNote]

/-- Two places of a list, exchanged. -/
def swapA (l : List Note) (i j : Nat) : List Note := (l.set i (l.getD j zn)).set j (l.getD i zn)
@[simp] theorem swapA_len (l : List Note) (i j : Nat) : (swapA l i j).length = l.length := by simp [swapA]
theorem noteL_swap {l : List Note} {i j : Nat} {x y : Note} (hx : l[i]? = some x) (hy : l[j]? = some y) :
    ((noteL l).set i (.agg [.int .i64 y.kind, .int .i64 y.patron, .int .i64 y.item, .int .i64 y.day])).set j (.agg [.int .i64 x.kind, .int .i64 x.patron, .int .i64 x.item, .int .i64 x.day]) = noteL (swapA l i j) := by
  rw [noteL_set, noteL_set, swapA, List.getD_eq_getElem?_getD, List.getD_eq_getElem?_getD, hx, hy]; rfl
theorem noteL_mid {l : List Note} {i j : Nat} {y z : Note} (hij : i ≠ j) (hy : l[j]? = some y) :
    ((noteL l).set i (.agg [.int .i64 z.kind, .int .i64 z.patron, .int .i64 z.item, .int .i64 z.day]))[j]? = some (.agg [.int .i64 y.kind, .int .i64 y.patron, .int .i64 y.item, .int .i64 y.day]) := by
  rw [List.getElem?_set_ne hij]; exact noteL_get hy

/-- n places from a on, exchanged with those from b on. -/
def swapN (l : List Note) (a b : Nat) : Nat → List Note
  | 0 => l
  | k + 1 => swapA (swapN l a b k) (a + k) (b + k)
@[simp] theorem swapN_len (l : List Note) (a b n : Nat) : (swapN l a b n).length = l.length := by
  induction n with
  | zero => rfl
  | succ n ih => simp [swapN, ih]

/-- Two blocks ahead of place m and behind it, exchanged: i places and j places. -/
def rotG (l : List Note) (m i j : Nat) : List Note :=
  if i = j ∨ i = 0 ∨ j = 0 then swapN l (m - i) m i
  else if j < i then rotG (swapN l (m - i) m j) m (i - j) j
  else rotG (swapN l (m - i) (m + j - i) i) m i (j - i)
termination_by i + j
@[simp] theorem rotG_len (l : List Note) (m i j : Nat) : (rotG l m i j).length = l.length := by
  fun_induction rotG l m i j <;> simp_all

theorem rotG_eq (l : List Note) (m i : Nat) : rotG l m i i = swapN l (m - i) m i := by rw [rotG, if_pos (.inl rfl)]
theorem rotG_gt {l : List Note} {m i j : Nat} (h : j < i) (h0 : 0 < j) : rotG l m i j = rotG (swapN l (m - i) m j) m (i - j) j := by rw [rotG, if_neg (by omega), if_pos h]
theorem rotG_lt {l : List Note} {m i j : Nat} (h : i < j) (h0 : 0 < i) : rotG l m i j = rotG (swapN l (m - i) (m + j - i) i) m i (j - i) := by rw [rotG, if_neg (by omega), if_neg (by omega)]

/-- The search by halves: the first place where p is false. -/
def bsF (p : Nat → Bool) (i j : Nat) : Nat := if i < j then (if p ((i + j) / 2) = true then bsF p ((i + j) / 2 + 1) j else bsF p i ((i + j) / 2)) else i
termination_by j - i

theorem bsF_t {p : Nat → Bool} {i j h : Nat} (hij : i < j) (hh : h = (i + j) / 2) (hp : p h = true) : bsF p (h + 1) j = bsF p i j := by
  subst hh
  conv => rhs; rw [bsF]
  rw [if_pos hij, if_pos hp]
theorem bsF_f {p : Nat → Bool} {i j h : Nat} (hij : i < j) (hh : h = (i + j) / 2) (hp : p h = false) : bsF p i h = bsF p i j := by
  subst hh
  conv => rhs; rw [bsF]
  rw [if_pos hij, if_neg (by rw [hp]; simp)]
theorem bsF_done {p : Nat → Bool} {i j : Nat} (hij : ¬ i < j) : bsF p i j = i := by rw [bsF, if_neg hij]
def cmpI (x y : Int) : Int := if x < y then -1 else if y < x then 1 else 0
theorem cmpI_rng (x y : Int) : -1 ≤ cmpI x y ∧ cmpI x y ≤ 1 := by unfold cmpI; split <;> (try split) <;> omega
def orF : List Int → Int
  | [] => 0
  | v :: l => if v = 0 then orF l else v
def orG (_ : Unit) (l : List Int) : Int := orF l
def cmpN (a b : Note) : Int := orF [cmpI a.patron b.patron, cmpI a.kind b.kind, cmpI a.item b.item]
theorem cmpN_rng (a b : Note) : -1 ≤ cmpN a b ∧ cmpN a b ≤ 1 := by
  have h1 := cmpI_rng a.patron b.patron
  have h2 := cmpI_rng a.kind b.kind
  have h3 := cmpI_rng a.item b.item
  simp only [cmpN, orF]
  split
  · split
    · split <;> omega
    · omega
  · omega
def ltN (a b : Note) : Bool := decide (cmpN a b < 0)
def ltA (l : List Note) (i j : Nat) : Bool := ltN (l.getD i zn) (l.getD j zn)

/-- The insertion sort's inner loop: place j goes down as far as it must. -/
def insI (l : List Note) (a : Nat) : Nat → List Note
  | 0 => l
  | j + 1 => if a < j + 1 ∧ ltA l (j + 1) j = true then insI (swapA l (j + 1) j) a j else l
@[simp] theorem insI_len (a j : Nat) : ∀ (l : List Note), (insI l a j).length = l.length := by
  induction j with
  | zero => intro l; rfl
  | succ j ih => intro l; simp only [insI]; split <;> simp [ih]
theorem insI_go {l : List Note} {a j p : Nat} (hj : j = p + 1) (ha : a < j) (h : ltA l j p = true) : insI l a j = insI (swapA l j p) a p := by
  subst hj; rw [insI, if_pos ⟨ha, h⟩]
theorem insI_no {l : List Note} {a j p : Nat} (hj : j = p + 1) (h : ltA l j p = false) : insI l a j = l := by
  subst hj; rw [insI, if_neg (by rw [h]; simp)]
theorem insI_ge {l : List Note} {a j : Nat} (h : ¬ a < j) : insI l a j = l := by
  cases j with
  | zero => rfl
  | succ p => rw [insI, if_neg (fun e => h e.1)]
theorem ltA_eq {l : List Note} {i j : Nat} {x y : Note} (hx : l[i]? = some x) (hy : l[j]? = some y) : ltA l i j = decide (cmpN x y < 0) := by
  rw [ltA, List.getD_eq_getElem?_getD, List.getD_eq_getElem?_getD, hx, hy]; rfl
/-- The outer loop: places i, i + 1 .. i + n - 1 one after the other. -/
def insO (l : List Note) (a i : Nat) : Nat → List Note
  | 0 => l
  | n + 1 => insO (insI l a i) a (i + 1) n
@[simp] theorem insO_len (a n : Nat) : ∀ (l : List Note) (i : Nat), (insO l a i n).length = l.length := by
  induction n with
  | zero => intro l i; rfl
  | succ n ih => intro l i; simp [insO, ih]
def insS (l : List Note) (a b : Nat) : List Note := insO l a (a + 1) (b - (a + 1))
@[simp] theorem insS_len (l : List Note) (a b : Nat) : (insS l a b).length = l.length := by simp [insS]

/-- Place a goes up to place a + n. -/
def upN (l : List Note) (a : Nat) : Nat → List Note
  | 0 => l
  | n + 1 => upN (swapA l a (a + 1)) (a + 1) n
@[simp] theorem upN_len (n : Nat) : ∀ (l : List Note) (a : Nat), (upN l a n).length = l.length := by
  induction n with
  | zero => intro l a; rfl
  | succ n ih => intro l a; simp [upN, ih]
/-- Place a + n goes down to place a. -/
def dnN (l : List Note) (a : Nat) : Nat → List Note
  | 0 => l
  | n + 1 => dnN (swapA l (a + n + 1) (a + n)) a n
@[simp] theorem dnN_len (n : Nat) : ∀ (l : List Note) (a : Nat), (dnN l a n).length = l.length := by
  induction n with
  | zero => intro l a; rfl
  | succ n ih => intro l a; simp [dnN, ih]

/-- symMerge's cut. -/
def symS (l : List Note) (a m b : Nat) : Nat :=
  bsF (fun c => !ltA l ((a + b) / 2 + m - 1 - c) c) (if (a + b) / 2 < m then (a + b) / 2 + m - b else a) (if (a + b) / 2 < m then (a + b) / 2 else m)
def symR (l : List Note) (a m b : Nat) : List Note :=
  if symS l a m b < m ∧ m < (a + b) / 2 + m - symS l a m b then rotG l m (m - symS l a m b) ((a + b) / 2 + m - symS l a m b - m) else l
/-- symMerge; the first number bounds the depth. -/
def symM : Nat → List Note → Nat → Nat → Nat → List Note
  | 0, l, _, _, _ => l
  | f + 1, l, a, m, b =>
    if m - a = 1 then upN l a (bsF (fun h => ltA l h a) m b - 1 - a)
    else if b - m = 1 then dnN l (bsF (fun h => !ltA l m h) a m) (m - bsF (fun h => !ltA l m h) a m)
    else
      let s := symS l a m b
      let l1 := symR l a m b
      let l2 := if a < s ∧ s < (a + b) / 2 then symM f l1 a s ((a + b) / 2) else l1
      if (a + b) / 2 < (a + b) / 2 + m - s ∧ (a + b) / 2 + m - s < b then symM f l2 ((a + b) / 2) ((a + b) / 2 + m - s) b else l2
/-- A half that is merged where there is something on both sides. -/
def symQ (f : Nat) (l : List Note) (x s y : Nat) : List Note := if x < s ∧ s < y then symM f l x s y else l
theorem symM_one (f : Nat) {l : List Note} {a m b : Nat} (h : m - a = 1) : symM (f + 1) l a m b = upN l a (bsF (fun h => ltA l h a) m b - 1 - a) := by
  simp only [symM]; rw [if_pos h]
theorem symM_two (f : Nat) {l : List Note} {a m b : Nat} (h : ¬ m - a = 1) (h2 : b - m = 1) : symM (f + 1) l a m b = dnN l (bsF (fun h => !ltA l m h) a m) (m - bsF (fun h => !ltA l m h) a m) := by
  simp only [symM]; rw [if_neg h, if_pos h2]
theorem symM_big (f : Nat) {l : List Note} {a m b d e s : Nat} (h : ¬ m - a = 1) (h2 : ¬ b - m = 1) (hd : d = (a + b) / 2) (hs : s = symS l a m b) (he : e = d + m - s) :
    symM (f + 1) l a m b = symQ f (symQ f (symR l a m b) a s d) d e b := by
  subst hd hs he
  simp only [symM]; rw [if_neg h, if_neg h2]; rfl
@[simp] theorem symR_len (l : List Note) (a m b : Nat) : (symR l a m b).length = l.length := by unfold symR; split <;> simp
@[simp] theorem symM_len (f : Nat) : ∀ (l : List Note) (a m b : Nat), (symM f l a m b).length = l.length := by
  induction f with
  | zero => intros; rfl
  | succ f ih =>
    intro l a m b
    simp only [symM]
    split
    · simp
    · split
      · simp
      · split <;> split <;> simp [ih]

/-- Blocks of 20, sorted one after the other, from a on, the next one ending at b. -/
def blkF (l : List Note) (a b n : Nat) : List Note :=
  if b ≤ n then blkF (insS l a b) b (b + 20) n else insS l a n
termination_by n + 20 - b
/-- Neighbouring blocks of s places, merged, from a on. -/
def mrgF (s : Nat) (l : List Note) (a b n : Nat) : List Note :=
  if b ≤ n ∧ 0 < s then mrgF s (symM n l a (a + s) b) b (b + 2 * s) n else if a + s < n then symM n l a (a + s) n else l
termination_by n + 2 * s - b
def dblF (l : List Note) (s n : Nat) : List Note :=
  if s < n ∧ 0 < s then dblF (mrgF s l 0 (2 * s) n) (s * 2) n else l
termination_by n - s
def stabM (l : List Note) : List Note := dblF (blkF l 0 20 l.length) 20 l.length
@[simp] theorem blkF_len (l : List Note) (a b n : Nat) : (blkF l a b n).length = l.length := by
  fun_induction blkF l a b n <;> simp_all
@[simp] theorem mrgF_len (s : Nat) (l : List Note) (a b n : Nat) : (mrgF s l a b n).length = l.length := by
  fun_induction mrgF s l a b n <;> simp_all
@[simp] theorem dblF_len (l : List Note) (s n : Nat) : (dblF l s n).length = l.length := by
  fun_induction dblF l s n <;> simp_all
@[simp] theorem stabM_len (l : List Note) : (stabM l).length = l.length := by simp [stabM]
end Pl

/- Notices: what the functions of the stable sort do: a sorted list with equal notices in their order. -/
namespace Pl

theorem ltN_iff (a b : Note) : ltN a b = true ↔ a.patron < b.patron ∨ a.patron = b.patron ∧ (a.kind < b.kind ∨ a.kind = b.kind ∧ a.item < b.item) := by
  simp only [ltN, cmpN, orF, cmpI]
  constructor
  · intro h
    by_cases h1 : a.patron < b.patron
    · exact .inl h1
    · by_cases h2 : b.patron < a.patron
      · simp [h1, h2] at h
      · by_cases h3 : a.kind < b.kind
        · exact .inr ⟨by omega, .inl h3⟩
        · by_cases h4 : b.kind < a.kind
          · simp [h1, h2, h3, h4] at h
          · by_cases h5 : a.item < b.item
            · exact .inr ⟨by omega, .inr ⟨by omega, h5⟩⟩
            · by_cases h6 : b.item < a.item
              · simp [h1, h2, h3, h4, h5, h6] at h
              · simp [h1, h2, h3, h4, h5, h6] at h
  · rintro (h | ⟨h, h' | ⟨h', h''⟩⟩)
    · simp [h]
    · simp [h, h']
    · simp [h, h', h'']
theorem ltN_irr (a : Note) : ltN a a = false := by
  rw [← Bool.not_eq_true, ltN_iff]; omega
theorem ltN_asy {a b : Note} (h : ltN a b = true) : ltN b a = false := by
  rw [← Bool.not_eq_true, ltN_iff]; rw [ltN_iff] at h; omega
theorem ltN_tr {a b c : Note} (h : ltN a b = true) (h2 : ltN b c = true) : ltN a c = true := by
  rw [ltN_iff] at *; omega
/-- not greater, in two steps -/
theorem leN_tr {a b c : Note} (h : ltN b a = false) (h2 : ltN c b = false) : ltN c a = false := by
  rw [← Bool.not_eq_true, ltN_iff] at *; omega
theorem leN_lt {a b c : Note} (h : ltN b a = false) (h2 : ltN b c = true) : ltN a c = true := by
  rw [← Bool.not_eq_true, ltN_iff] at h; rw [ltN_iff] at *; omega
theorem lt_leN {a b c : Note} (h : ltN a b = true) (h2 : ltN c b = false) : ltN a c = true := by
  rw [← Bool.not_eq_true, ltN_iff] at h2; rw [ltN_iff] at *; omega

def eqv (k x : Note) : Bool := !ltN k x && !ltN x k
theorem eqv_rfl (x : Note) : eqv x x = true := by simp [eqv, ltN_irr]
theorem eqv_lt {k x y : Note} (h : ltN x y = true) (hx : eqv k x = true) : eqv k y = false := by
  rw [← Bool.not_eq_true]
  intro hy
  simp only [eqv, Bool.and_eq_true, Bool.not_eq_true'] at hx hy
  have h1 := hx.1
  have h2 := hx.2
  have h3 := hy.1
  have h4 := hy.2
  rw [← Bool.not_eq_true, ltN_iff] at h1 h2 h3 h4
  rw [ltN_iff] at h
  omega

def Srt (l : List Note) : Prop := l.Pairwise (fun x y => ltN y x = false)
/-- The same notices, equal ones in the same order. -/
def SP (l l' : List Note) : Prop := ∀ k, l'.filter (eqv k) = l.filter (eqv k)
theorem SP.rfl {l : List Note} : SP l l := fun _ => .refl _
theorem SP.tr {a b c : List Note} (h : SP a b) (h2 : SP b c) : SP a c := fun k => (h2 k).trans (h k)
theorem SP.sym {a b : List Note} (h : SP a b) : SP b a := fun k => (h k).symm
theorem SP.app {a b c d : List Note} (h : SP a b) (h2 : SP c d) : SP (a ++ c) (b ++ d) := fun k => by
  rw [List.filter_append, List.filter_append, h k, h2 k]
theorem SP.perm {a b : List Note} (h : SP a b) : b.Perm a := by
  rw [List.perm_iff_count]
  intro x
  rw [← List.count_filter (p := eqv x) (eqv_rfl x), h x, List.count_filter (eqv_rfl x)]
theorem SP.mem {a b : List Note} (h : SP a b) {x : Note} : x ∈ b ↔ x ∈ a := h.perm.mem_iff
theorem SP.len {a b : List Note} (h : SP a b) : b.length = a.length := h.perm.length_eq
/-- Two blocks, all of the second less than all of the first, may be exchanged. -/
theorem SP.swap {u v : List Note} (h : ∀ x ∈ v, ∀ y ∈ u, ltN x y = true) : SP (u ++ v) (v ++ u) := fun k => by
  rw [List.filter_append, List.filter_append]
  by_cases hv : v.filter (eqv k) = []
  · rw [hv]; simp
  · have hu : u.filter (eqv k) = [] := by
      obtain ⟨x, hx⟩ := List.exists_mem_of_ne_nil _ hv
      rw [List.mem_filter] at hx
      rw [List.filter_eq_nil_iff]
      intro y hy
      rw [eqv_lt (h x hx.1 y hy) hx.2]; simp
    rw [hu]; simp

theorem Srt_uniq : ∀ {a b : List Note}, Srt a → Srt b → SP a b → a = b := by
  intro a
  induction a with
  | nil => intro b _ _ h; have := h.len; simp at this; exact this.symm
  | cons x t ih =>
    intro b ha hb h
    cases b with
    | nil => have := h.len; simp at this
    | cons y t2 =>
      have ha1 := List.pairwise_cons.1 ha
      have hb1 := List.pairwise_cons.1 hb
      have hyx : ltN y x = false := by
        rcases List.mem_cons.1 (h.mem.1 (List.mem_cons_self (a := y) (l := t2))) with e | e
        · rw [e]; exact ltN_irr _
        · exact ha1.1 _ e
      have hxy : ltN x y = false := by
        rcases List.mem_cons.1 (h.mem.2 (List.mem_cons_self (a := x) (l := t))) with e | e
        · rw [e]; exact ltN_irr _
        · exact hb1.1 _ e
      have hxe : eqv x y = true := by simp [eqv, hxy, hyx]
      have hk := h x
      rw [List.filter_cons_of_pos hxe, List.filter_cons_of_pos (eqv_rfl x)] at hk
      have e := (List.cons.inj hk).1
      subst e
      have := ih ha1.2 hb1.2 (fun k => by
        have := h k
        simp only [List.filter_cons] at this
        split at this
        · exact (List.cons.inj this).2
        · exact this)
      rw [this]

theorem Srt_app {a b : List Note} : Srt (a ++ b) ↔ Srt a ∧ Srt b ∧ ∀ x ∈ a, ∀ y ∈ b, ltN y x = false := List.pairwise_append
theorem Srt_one (x : Note) : Srt [x] := List.pairwise_singleton _ _
theorem Srt_nil : Srt [] := List.Pairwise.nil

theorem getD_app (p : List Note) (x : Note) (q : List Note) : (p ++ x :: q).getD p.length zn = x := by simp [List.getD_eq_getElem?_getD]
theorem get_at {l : List Note} (p : List Note) (x : Note) (q : List Note) {i : Nat} (hi : i = p.length) (hl : l = p ++ x :: q) : l.getD i zn = x := by
  subst hi hl; exact getD_app p x q

theorem swapA_at (p : List Note) (x : Note) (w : List Note) (y : Note) (q : List Note) {i j : Nat} (hi : i = p.length) (hj : j = p.length + 1 + w.length) :
    swapA (p ++ x :: (w ++ y :: q)) i j = p ++ y :: (w ++ x :: q) := by
  have ey : (p ++ x :: (w ++ y :: q)).getD j zn = y := get_at (p ++ x :: w) y q (by simp [hj]; omega) (by simp)
  have ex : (p ++ x :: (w ++ y :: q)).getD i zn = x := get_at p x _ hi _root_.rfl
  rw [swapA, ey, ex, hi, List.set_append_right _ _ (Nat.le_refl _), Nat.sub_self, List.set_cons_zero, hj, List.set_append_right _ _ (by omega),
    show p.length + 1 + w.length - p.length = w.length + 1 by omega, List.set_cons_succ, List.set_append_right _ _ (Nat.le_refl _), Nat.sub_self, List.set_cons_zero]
theorem swapA_up (p : List Note) (x y : Note) (q : List Note) {i j : Nat} (hi : i = p.length) (hj : j = p.length + 1) :
    swapA (p ++ x :: y :: q) i j = p ++ y :: x :: q := swapA_at p x [] y q hi (by simpa using hj)
theorem swapA_dn (p : List Note) (x y : Note) (q : List Note) {i j : Nat} (hi : i = p.length) (hj : j = p.length + 1) :
    swapA (p ++ x :: y :: q) j i = p ++ y :: x :: q := by
  rw [← swapA_up p x y q hi hj]
  have ey : (p ++ x :: y :: q).getD j zn = y := get_at (p ++ [x]) y q (by simp [hj]) (by simp)
  have ex : (p ++ x :: y :: q).getD i zn = x := get_at p x _ hi _root_.rfl
  rw [swapA, swapA, ex, ey, List.set_comm _ _ (by omega)]

theorem swapN_at : ∀ (n : Nat) (p u w v q : List Note), u.length = n → v.length = n → ∀ {a b : Nat}, a = p.length → b = p.length + n + w.length →
    swapN (p ++ u ++ w ++ v ++ q) a b n = p ++ v ++ w ++ u ++ q := by
  intro n
  induction n with
  | zero =>
    intro p u w v q hu hv a b _ _
    rw [List.length_eq_zero_iff] at hu hv
    subst hu hv; rfl
  | succ n ih =>
    intro p u w v q hu hv a b ha hb
    obtain ⟨u', x, rfl⟩ : ∃ u' x, u = u' ++ [x] := ⟨u.dropLast, u.getLast (by intro e; simp [e] at hu), (List.dropLast_concat_getLast _).symm⟩
    obtain ⟨v', y, rfl⟩ : ∃ v' y, v = v' ++ [y] := ⟨v.dropLast, v.getLast (by intro e; simp [e] at hv), (List.dropLast_concat_getLast _).symm⟩
    simp at hu hv
    have h := ih p u' ([x] ++ w) v' ([y] ++ q) hu hv (a := a) (b := b) ha (by simp [hb]; omega)
    rw [swapN, show p ++ (u' ++ [x]) ++ w ++ (v' ++ [y]) ++ q = p ++ u' ++ ([x] ++ w) ++ v' ++ ([y] ++ q) by simp, h,
      show p ++ v' ++ ([x] ++ w) ++ u' ++ ([y] ++ q) = (p ++ v') ++ x :: ((w ++ u') ++ y :: q) by simp,
      swapA_at (p ++ v') x (w ++ u') y q (by simp [ha, hv]) (by simp [hb, hv, hu]; omega)]
    simp

theorem rotG_at : ∀ (n : Nat) (p u v q : List Note), u.length + v.length ≤ n → 0 < u.length → 0 < v.length → ∀ {m i j : Nat}, m = p.length + u.length → i = u.length → j = v.length →
    rotG (p ++ u ++ v ++ q) m i j = p ++ v ++ u ++ q := by
  intro n
  induction n with
  | zero => intro p u v q h h1 h2; omega
  | succ n ih =>
    intro p u v q h h1 h2 m i j hm hi hj
    rcases Nat.lt_trichotomy i j with hij | hij | hij
    · rw [rotG_lt hij (by omega)]
      obtain ⟨v1, v2, rfl, hv2⟩ : ∃ v1 v2, v = v1 ++ v2 ∧ v2.length = i := ⟨v.take (v.length - i), v.drop (v.length - i), (List.take_append_drop _ _).symm, by simp; omega⟩
      simp at hj h h2
      have e := swapN_at i p u v1 v2 q hi.symm hv2 (a := m - i) (b := m + j - i) (by omega) (by omega)
      rw [show p ++ u ++ (v1 ++ v2) ++ q = p ++ u ++ v1 ++ v2 ++ q by simp, e,
        show p ++ v2 ++ v1 ++ u ++ q = p ++ v2 ++ v1 ++ (u ++ q) by simp,
        ih p v2 v1 (u ++ q) (by omega) (by omega) (by omega) (by omega) hv2.symm (by omega)]
      simp
    · subst hij
      rw [rotG_eq]
      have e := swapN_at i p u [] v q hi.symm hj.symm (a := m - i) (b := m) (by omega) (by simp; omega)
      simpa using e
    · rw [rotG_gt hij (by omega)]
      obtain ⟨u1, u2, rfl, hu1⟩ : ∃ u1 u2, u = u1 ++ u2 ∧ u1.length = j := ⟨u.take j, u.drop j, (List.take_append_drop _ _).symm, by simp; omega⟩
      simp at hi h h1 hm
      have e := swapN_at j p u1 u2 v q hu1 hj.symm (a := m - i) (b := m) (by omega) (by omega)
      rw [show p ++ (u1 ++ u2) ++ v ++ q = p ++ u1 ++ u2 ++ v ++ q by simp, e,
        show p ++ v ++ u2 ++ u1 ++ q = (p ++ v) ++ u2 ++ u1 ++ q by simp,
        ih (p ++ v) u2 u1 q (by omega) (by omega) (by omega) (by simp; omega) (by omega) hu1.symm]
      simp

theorem ltA_at {l : List Note} {i j : Nat} {x y : Note} (p : List Note) (q : List Note) (r s : List Note) (hi : i = p.length) (hl : l = p ++ x :: q) (hj : j = r.length) (hl2 : l = r ++ y :: s) :
    ltA l i j = ltN x y := by rw [ltA, get_at p x q hi hl, get_at r y s hj hl2]

theorem insI_at : ∀ (n : Nat) (p s : List Note) (x : Note) (q : List Note), s.length = n → Srt s → ∀ {a j : Nat}, a = p.length → j = p.length + n →
    ∃ m, insI (p ++ s ++ x :: q) a j = p ++ m ++ q ∧ Srt m ∧ SP (s ++ [x]) m := by
  intro n
  induction n with
  | zero =>
    intro p s x q hs _ a j ha hj
    rw [List.length_eq_zero_iff] at hs
    subst hs
    exact ⟨[x], by rw [insI_ge (by omega)]; simp, Srt_one x, .rfl⟩
  | succ n ih =>
    intro p s x q hs hss a j ha hj
    obtain ⟨s', y, rfl⟩ : ∃ s' y, s = s' ++ [y] := ⟨s.dropLast, s.getLast (by intro e; simp [e] at hs), (List.dropLast_concat_getLast _).symm⟩
    simp at hs
    have hlt : ltA (p ++ (s' ++ [y]) ++ x :: q) j (p.length + n) = ltN x y :=
      ltA_at (p ++ s' ++ [y]) q (p ++ s') (x :: q) (by simp; omega) (by simp) (by simp; omega) (by simp)
    have hsr := Srt_app.1 hss
    cases hc : ltN x y with
    | true =>
      rw [insI_go (p := p.length + n) (by omega) (by omega) (hlt.trans hc)]
      rw [show p ++ (s' ++ [y]) ++ x :: q = (p ++ s') ++ y :: x :: q by simp, swapA_dn (p ++ s') y x q (by simp; omega) (by simp; omega)]
      obtain ⟨m, e, hm, hp⟩ := ih p s' x (y :: q) hs hsr.1 (a := a) (j := p.length + n) ha (by omega)
      refine ⟨m ++ [y], by rw [e]; simp, Srt_app.2 ⟨hm, Srt_one y, ?_⟩, ?_⟩
      · intro z hz w hw
        rw [List.mem_singleton] at hw
        subst hw
        rcases List.mem_append.1 (hp.mem.1 hz) with h | h
        · exact hsr.2.2 z h _ (List.mem_singleton_self _)
        · rw [List.mem_singleton] at h; subst h; exact ltN_asy hc
      · refine SP.tr ?_ (hp.app (.rfl (l := [y])))
        rw [List.append_assoc, List.append_assoc]
        refine SP.app .rfl (SP.swap (u := [y]) (v := [x]) ?_)
        intro a ha b hb
        rw [List.mem_singleton] at ha hb
        subst ha hb; exact hc
    | false =>
      rw [insI_no (p := p.length + n) (by omega) (hlt.trans hc)]
      refine ⟨s' ++ [y] ++ [x], by simp, Srt_app.2 ⟨hss, Srt_one x, ?_⟩, .rfl⟩
      intro z hz w hw
      rw [List.mem_singleton] at hw
      subst hw
      rcases List.mem_append.1 hz with h | h
      · exact leN_tr (hsr.2.2 z h _ (List.mem_singleton_self _)) hc
      · rw [List.mem_singleton] at h; subst h; exact hc

theorem insO_at : ∀ (n : Nat) (p s t q : List Note), t.length = n → Srt s → ∀ {a i : Nat}, a = p.length → i = p.length + s.length →
    ∃ m, insO (p ++ s ++ t ++ q) a i n = p ++ m ++ q ∧ Srt m ∧ SP (s ++ t) m := by
  intro n
  induction n with
  | zero =>
    intro p s t q ht hs a i _ _
    rw [List.length_eq_zero_iff] at ht
    subst ht
    exact ⟨s, by simp [insO], hs, by simpa using SP.rfl⟩
  | succ n ih =>
    intro p s t q ht hs a i ha hi
    cases t with
    | nil => simp at ht
    | cons x t =>
      simp at ht
      obtain ⟨m, e, hm, hp⟩ := insI_at _ p s x (t ++ q) rfl hs ha hi
      obtain ⟨m', e', hm', hp'⟩ := ih p m t q ht hm (a := a) (i := i + 1) ha (by have := hp.len; simp at this; omega)
      refine ⟨m', ?_, hm', ?_⟩
      · rw [insO, show p ++ s ++ x :: t ++ q = p ++ s ++ x :: (t ++ q) by simp, e, ← List.append_assoc, e']
      · refine SP.tr ?_ hp'
        rw [show s ++ x :: t = (s ++ [x]) ++ t by simp]
        exact hp.app .rfl
theorem insS_at (p t q : List Note) {a b : Nat} (ha : a = p.length) (hb : b = p.length + t.length) :
    ∃ m, insS (p ++ t ++ q) a b = p ++ m ++ q ∧ Srt m ∧ SP t m := by
  cases t with
  | nil => exact ⟨[], by simp [insS, show b - (a + 1) = 0 by simp at hb; omega, insO], Srt_nil, .rfl⟩
  | cons x t =>
    obtain ⟨m, e, h⟩ := insO_at (b - (a + 1)) p [x] t q (by simp at hb; omega) (Srt_one x) (a := a) (i := a + 1) ha (by simp [ha])
    exact ⟨m, by rw [insS, ← e]; simp, h⟩
end Pl

/- Notices: the merge and the stable sort. -/
namespace Pl

theorem bsF_spec (p : Nat → Bool) : ∀ (n i j : Nat), j - i ≤ n → i ≤ j →
    i ≤ bsF p i j ∧ bsF p i j ≤ j ∧ (bsF p i j = i ∨ p (bsF p i j - 1) = true) ∧ (bsF p i j = j ∨ p (bsF p i j) = false) := by
  intro n
  induction n with
  | zero => intro i j h hij; rw [bsF_done (by omega)]; exact ⟨by omega, by omega, .inl rfl, .inl (by omega)⟩
  | succ n ih =>
    intro i j h hij
    by_cases hlt : i < j
    · cases hc : p ((i + j) / 2) with
      | true =>
        have e := bsF_t hlt rfl hc
        have := ih ((i + j) / 2 + 1) j (by omega) (by omega)
        rw [e] at this
        obtain ⟨a, b, c, d⟩ := this
        refine ⟨by omega, b, ?_, d⟩
        rcases c with c | c
        · right; rw [c]; exact hc
        · exact .inr c
      | false =>
        have e := bsF_f hlt rfl hc
        have := ih i ((i + j) / 2) (by omega) (by omega)
        rw [e] at this
        obtain ⟨a, b, c, d⟩ := this
        refine ⟨a, by omega, c, ?_⟩
        rcases d with d | d
        · right; rw [d]; exact hc
        · exact .inr d
    · rw [bsF_done hlt]; exact ⟨by omega, by omega, .inl rfl, .inl (by omega)⟩

theorem upN_at : ∀ (n : Nat) (p : List Note) (x : Note) (t q : List Note), t.length = n → ∀ {a : Nat}, a = p.length →
    upN (p ++ x :: (t ++ q)) a n = p ++ t ++ x :: q := by
  intro n
  induction n with
  | zero => intro p x t q ht a _; rw [List.length_eq_zero_iff] at ht; subst ht; simp [upN]
  | succ n ih =>
    intro p x t q ht a ha
    cases t with
    | nil => simp at ht
    | cons y t =>
      simp at ht
      rw [upN, List.cons_append, swapA_up p x y (t ++ q) ha (by omega), show p ++ y :: x :: (t ++ q) = (p ++ [y]) ++ x :: (t ++ q) by simp, ih (p ++ [y]) x t q ht (by simp [ha])]
      simp
theorem dnN_at : ∀ (n : Nat) (p s : List Note) (x : Note) (q : List Note), s.length = n → ∀ {a : Nat}, a = p.length →
    dnN (p ++ s ++ x :: q) a n = p ++ x :: (s ++ q) := by
  intro n
  induction n with
  | zero => intro p s x q hs a _; rw [List.length_eq_zero_iff] at hs; subst hs; simp [dnN]
  | succ n ih =>
    intro p s x q hs a ha
    obtain ⟨s', y, rfl⟩ : ∃ s' y, s = s' ++ [y] := ⟨s.dropLast, s.getLast (by intro e; simp [e] at hs), (List.dropLast_concat_getLast _).symm⟩
    simp at hs
    rw [dnN, show p ++ (s' ++ [y]) ++ x :: q = (p ++ s') ++ y :: x :: q by simp, swapA_dn (p ++ s') y x q (by simp; omega) (by simp; omega),
      show (p ++ s') ++ x :: y :: q = p ++ s' ++ x :: (y :: q) by simp, ih p s' x (y :: q) hs ha]
    simp

/-- A cut of a sorted list: what is ahead is not greater than what is behind. -/
theorem Srt_cut {a b : List Note} (h : Srt (a ++ b)) : (∀ x ∈ a, ∀ y ∈ b, ltN y x = false) := (Srt_app.1 h).2.2
theorem Srt_last {a : List Note} {x : Note} (h : Srt (a ++ [x])) : ∀ y ∈ a ++ [x], ltN x y = false := by
  intro y hy
  rcases List.mem_append.1 hy with h' | h'
  · exact (Srt_app.1 h).2.2 y h' x (List.mem_singleton_self _)
  · rw [List.mem_singleton] at h'; rw [h']; exact ltN_irr _
theorem Srt_head {a : List Note} {x : Note} (h : Srt (x :: a)) : ∀ y ∈ x :: a, ltN y x = false := by
  intro y hy
  rcases List.mem_cons.1 hy with h' | h'
  · rw [h']; exact ltN_irr _
  · exact (List.pairwise_cons.1 h).1 y h'
theorem cut_at (l : List Note) {n : Nat} (h : n ≤ l.length) : ∃ u v, l = u ++ v ∧ u.length = n := ⟨l.take n, l.drop n, (List.take_append_drop _ _).symm, by simp; omega⟩
theorem last_of {u : List Note} (h : 0 < u.length) : ∃ u' x, u = u' ++ [x] := ⟨u.dropLast, u.getLast (by intro e; simp [e] at h), (List.dropLast_concat_getLast _).symm⟩
theorem head_of {u : List Note} (h : 0 < u.length) : ∃ x u', u = x :: u' := by
  cases u with
  | nil => simp at h
  | cons x u => exact ⟨x, u, rfl⟩

set_option maxHeartbeats 4000000 in
theorem symM_at : ∀ (f : Nat) (p s t q : List Note), Srt s → Srt t → 0 < s.length → 0 < t.length → s.length + t.length ≤ f →
    ∀ {a m b : Nat}, a = p.length → m = a + s.length → b = m + t.length →
    ∃ r, symM f (p ++ s ++ t ++ q) a m b = p ++ r ++ q ∧ Srt r ∧ SP (s ++ t) r := by
  intro f
  induction f with
  | zero => intros; omega
  | succ f ih =>
    intro p s t q hs ht hs0 ht0 hf a m b ha hm hb
    by_cases h1 : m - a = 1
    · -- one on the left
      obtain ⟨x, rfl⟩ : ∃ x, s = [x] := List.length_eq_one_iff.1 (by omega)
      simp at hm
      rw [symM_one f h1]
      obtain ⟨r, hr⟩ : ∃ z, z = bsF (fun h => ltA (p ++ [x] ++ t ++ q) h a) m b := ⟨_, rfl⟩
      have hsp := bsF_spec (fun h => ltA (p ++ [x] ++ t ++ q) h a) (b - m) m b (Nat.le_refl _) (by omega)
      rw [← hr] at hsp ⊢
      obtain ⟨g1, g2, g3, g4⟩ := hsp
      obtain ⟨t1, t2, rfl, ht1⟩ := cut_at t (n := r - m) (by omega)
      simp only [List.length_append] at hb ht0 hf
      have c1 : ∀ y ∈ t1, ltN y x = true := by
        by_cases e : t1.length = 0
        · rw [List.length_eq_zero_iff] at e; subst e; intro y hy; simp at hy
        · obtain ⟨t1', z, rfl⟩ := last_of (u := t1) (by omega)
          simp at ht1
          have h3 : ltN z x = true := by
            rcases g3 with g3 | g3
            · omega
            · have e2 := ltA_at (l := p ++ [x] ++ (t1' ++ [z] ++ t2) ++ q) (i := r - 1) (j := a) (x := z) (y := x) (p ++ [x] ++ t1') (t2 ++ q) p (t1' ++ [z] ++ t2 ++ q) (by simp; omega) (by simp) ha (by simp)
              rw [e2] at g3; exact g3
          intro y hy
          exact leN_lt (Srt_last (Srt_app.1 ht).1 y hy) h3
      have c2 : ∀ y ∈ t2, ltN y x = false := by
        by_cases e : t2.length = 0
        · rw [List.length_eq_zero_iff] at e; subst e; intro y hy; simp at hy
        · obtain ⟨z, t2', rfl⟩ := head_of (u := t2) (by omega)
          have h3 : ltN z x = false := by
            rcases g4 with g4 | g4
            · omega
            · have e2 := ltA_at (l := p ++ [x] ++ (t1 ++ z :: t2') ++ q) (i := r) (j := a) (x := z) (y := x) (p ++ [x] ++ t1) (t2' ++ q) p (t1 ++ z :: t2' ++ q) (by simp; omega) (by simp) ha (by simp)
              rw [e2] at g4; exact g4
          intro y hy
          exact leN_tr h3 (Srt_head (Srt_app.1 ht).2.1 y hy)
      refine ⟨t1 ++ x :: t2, ?_, ?_, ?_⟩
      · have := upN_at t1.length p x t1 (t2 ++ q) rfl ha
        rw [show r - 1 - a = t1.length by omega, show p ++ [x] ++ (t1 ++ t2) ++ q = p ++ x :: (t1 ++ (t2 ++ q)) by simp, this]; simp
      · refine Srt_app.2 ⟨(Srt_app.1 ht).1, List.pairwise_cons.2 ⟨c2, (Srt_app.1 ht).2.1⟩, ?_⟩
        intro y hy z hz
        rcases List.mem_cons.1 hz with e | e
        · rw [e]; exact ltN_asy (c1 y hy)
        · exact Srt_cut ht y hy z e
      · rw [show [x] ++ (t1 ++ t2) = ([x] ++ t1) ++ t2 by simp, show t1 ++ x :: t2 = (t1 ++ [x]) ++ t2 by simp]
        refine SP.app (SP.swap ?_) .rfl
        intro y hy z hz
        rw [List.mem_singleton] at hz
        rw [hz]; exact c1 y hy
    · by_cases h2 : b - m = 1
      · -- one on the right
        obtain ⟨x, rfl⟩ : ∃ x, t = [x] := List.length_eq_one_iff.1 (by omega)
        rw [symM_two f h1 h2]
        obtain ⟨r, hr⟩ : ∃ z, z = bsF (fun h => !ltA (p ++ s ++ [x] ++ q) m h) a m := ⟨_, rfl⟩
        have hsp := bsF_spec (fun h => !ltA (p ++ s ++ [x] ++ q) m h) (m - a) a m (Nat.le_refl _) (by omega)
        rw [← hr] at hsp ⊢
        obtain ⟨g1, g2, g3, g4⟩ := hsp
        obtain ⟨s1, s2, rfl, hs1⟩ := cut_at s (n := r - a) (by omega)
        simp only [List.length_append] at hm hs0 hf
        have c1 : ∀ y ∈ s1, ltN x y = false := by
          by_cases e : s1.length = 0
          · rw [List.length_eq_zero_iff] at e; subst e; intro y hy; simp at hy
          · obtain ⟨s1', z, rfl⟩ := last_of (u := s1) (by omega)
            simp at hs1 hm
            have h3 : ltN x z = false := by
              rcases g3 with g3 | g3
              · omega
              · have e2 := ltA_at (l := p ++ (s1' ++ [z] ++ s2) ++ [x] ++ q) (i := m) (j := r - 1) (x := x) (y := z) (p ++ (s1' ++ [z] ++ s2)) q (p ++ s1') (s2 ++ [x] ++ q) (by simp; omega) (by simp) (by simp; omega) (by simp)
                rw [e2] at g3; simpa using g3
            intro y hy
            exact leN_tr (Srt_last (Srt_app.1 hs).1 y hy) h3
        have c2 : ∀ y ∈ s2, ltN x y = true := by
          by_cases e : s2.length = 0
          · rw [List.length_eq_zero_iff] at e; subst e; intro y hy; simp at hy
          · obtain ⟨z, s2', rfl⟩ := head_of (u := s2) (by omega)
            simp at hm
            have h3 : ltN x z = true := by
              rcases g4 with g4 | g4
              · omega
              · have e2 := ltA_at (l := p ++ (s1 ++ z :: s2') ++ [x] ++ q) (i := m) (j := r) (x := x) (y := z) (p ++ (s1 ++ z :: s2')) q (p ++ s1) (s2' ++ [x] ++ q) (by simp; omega) (by simp) (by simp; omega) (by simp)
                rw [e2] at g4; simpa using g4
            intro y hy
            exact lt_leN h3 (Srt_head (Srt_app.1 hs).2.1 y hy)
        refine ⟨s1 ++ x :: s2, ?_, ?_, ?_⟩
        · have := dnN_at s2.length (p ++ s1) s2 x q rfl (a := r) (by simp; omega)
          rw [show m - r = s2.length by omega, show p ++ (s1 ++ s2) ++ [x] ++ q = (p ++ s1) ++ s2 ++ x :: q by simp, this]; simp
        · refine Srt_app.2 ⟨(Srt_app.1 hs).1, List.pairwise_cons.2 ⟨fun y hy => ltN_asy (c2 y hy), (Srt_app.1 hs).2.1⟩, ?_⟩
          intro y hy z hz
          rcases List.mem_cons.1 hz with e | e
          · rw [e]; exact c1 y hy
          · exact Srt_cut hs y hy z e
        · rw [List.append_assoc, show s1 ++ x :: s2 = s1 ++ ([x] ++ s2) by simp]
          refine SP.app .rfl (SP.swap ?_)
          intro y hy z hz
          rw [List.mem_singleton] at hy
          rw [hy]; exact c2 z hz
      · -- the cut
        obtain ⟨d, hd⟩ : ∃ z, z = (a + b) / 2 := ⟨_, rfl⟩
        obtain ⟨l, hl⟩ : ∃ z, z = p ++ s ++ t ++ q := ⟨_, rfl⟩
        obtain ⟨c, hc⟩ : ∃ z, z = symS l a m b := ⟨_, rfl⟩
        obtain ⟨e, he⟩ : ∃ z, z = d + m - c := ⟨_, rfl⟩
        rw [← hl, symM_big f h1 h2 hd hc he]
        obtain ⟨s0, hs0'⟩ : ∃ z, z = if d < m then d + m - b else a := ⟨_, rfl⟩
        obtain ⟨r0, hr0⟩ : ∃ z, z = if d < m then d else m := ⟨_, rfl⟩
        have hc' : c = bsF (fun c => !ltA l (d + m - 1 - c) c) s0 r0 := by rw [hc, symS, hs0', hr0, hd]
        have hb0 : a ≤ s0 ∧ s0 ≤ r0 ∧ r0 ≤ m ∧ d + m ≤ s0 + b ∧ r0 ≤ d := by
          rw [hs0', hr0]; split <;> omega
        have hb1 : (s0 = a ∨ s0 + b = d + m) ∧ (r0 = m ∨ r0 = d) := by
          rw [hs0', hr0]; split <;> omega
        have hsp := bsF_spec (fun c => !ltA l (d + m - 1 - c) c) (r0 - s0) s0 r0 (Nat.le_refl _) (by omega)
        rw [← hc'] at hsp
        obtain ⟨g1, g2, g3, g4⟩ := hsp
        obtain ⟨x1, x2, rfl, hx1⟩ := cut_at s (n := c - a) (by omega)
        obtain ⟨y1, y2, rfl, hy1⟩ := cut_at t (n := e - m) (by omega)
        simp only [List.length_append] at hm hb hs0 ht0 hf
        have hx := Srt_app.1 hs
        have hy := Srt_app.1 ht
        have k1 : ∀ u ∈ x1, ∀ v ∈ y2, ltN v u = false := by
          by_cases ex : x1.length = 0
          · rw [List.length_eq_zero_iff] at ex; subst ex; intro u hu; simp at hu
          by_cases ey : y2.length = 0
          · rw [List.length_eq_zero_iff] at ey; subst ey; intro u _ v hv; simp at hv
          obtain ⟨x1', z, rfl⟩ := last_of (u := x1) (by omega)
          obtain ⟨w, y2', rfl⟩ := head_of (u := y2) (by omega)
          simp at hx1 hm hb
          have h3 : ltN w z = false := by
            rcases g3 with g3 | g3
            · omega
            · have e2 := ltA_at (l := l) (i := d + m - 1 - (c - 1)) (j := c - 1) (x := w) (y := z) (p ++ (x1' ++ [z] ++ x2) ++ y1) (y2' ++ q) (p ++ x1') (x2 ++ y1 ++ w :: y2' ++ q) (by simp; omega) (by rw [hl]; simp) (by simp; omega) (by rw [hl]; simp)
              rw [e2] at g3; simpa using g3
          intro u hu v hv
          exact leN_tr (leN_tr (Srt_last hx.1 u hu) h3) (Srt_head hy.2.1 v hv)
        have k2 : ∀ v ∈ y1, ∀ u ∈ x2, ltN v u = true := by
          by_cases ex : x2.length = 0
          · rw [List.length_eq_zero_iff] at ex; subst ex; intro u _ v hv; simp at hv
          by_cases ey : y1.length = 0
          · rw [List.length_eq_zero_iff] at ey; subst ey; intro u hu; simp at hu
          obtain ⟨z, x2', rfl⟩ := head_of (u := x2) (by omega)
          obtain ⟨y1', w, rfl⟩ := last_of (u := y1) (by omega)
          simp at hy1 hm hb
          have h3 : ltN w z = true := by
            rcases g4 with g4 | g4
            · omega
            · have e2 := ltA_at (l := l) (i := d + m - 1 - c) (j := c) (x := w) (y := z) (p ++ (x1 ++ z :: x2') ++ y1') (y2 ++ q) (p ++ x1) (x2' ++ (y1' ++ [w]) ++ y2 ++ q) (by simp; omega) (by rw [hl]; simp) (by simp; omega) (by rw [hl]; simp)
              rw [e2] at g4; simpa using g4
          intro v hv u hu
          exact leN_lt (Srt_last hy.1 v hv) (lt_leN h3 (Srt_head hx.2.1 u hu))
        -- behind the rotation
        have hR : symR l a m b = p ++ x1 ++ y1 ++ x2 ++ y2 ++ q := by
          rw [symR, ← hc, ← hd, ← he]
          by_cases hcc : c < m ∧ m < e
          · rw [if_pos hcc, hl]
            have := rotG_at (x2.length + y1.length) (p ++ x1) x2 y1 (y2 ++ q) (Nat.le_refl _) (by omega) (by omega) (m := m) (i := m - c) (j := e - m) (by simp; omega) (by omega) (by omega)
            rw [show p ++ (x1 ++ x2) ++ (y1 ++ y2) ++ q = (p ++ x1) ++ x2 ++ y1 ++ (y2 ++ q) by simp, this]; simp
          · rw [if_neg hcc, hl]
            by_cases ex : x2.length = 0
            · rw [List.length_eq_zero_iff] at ex; subst ex; simp
            · have ey : y1.length = 0 := by omega
              rw [List.length_eq_zero_iff] at ey; subst ey; simp
        have hQ1 : ∃ r1, symQ f (p ++ x1 ++ y1 ++ x2 ++ y2 ++ q) a c d = p ++ r1 ++ x2 ++ y2 ++ q ∧ Srt r1 ∧ SP (x1 ++ y1) r1 := by
          rw [symQ]
          by_cases hcc : a < c ∧ c < d
          · rw [if_pos hcc]
            obtain ⟨r, e1, e2, e3⟩ := ih p x1 y1 (x2 ++ y2 ++ q) hx.1 hy.1 (by omega) (by omega) (by omega) (a := a) (m := c) (b := d) ha (by omega) (by omega)
            exact ⟨r, by rw [show p ++ x1 ++ y1 ++ x2 ++ y2 ++ q = p ++ x1 ++ y1 ++ (x2 ++ y2 ++ q) by simp, e1]; simp, e2, e3⟩
          · rw [if_neg hcc]
            by_cases ex : x1.length = 0
            · rw [List.length_eq_zero_iff] at ex; subst ex; exact ⟨y1, by simp, hy.1, .rfl⟩
            · have ey : y1.length = 0 := by omega
              rw [List.length_eq_zero_iff] at ey; subst ey; exact ⟨x1, by simp, hx.1, by simpa using SP.rfl⟩
        obtain ⟨r1, q1, q2, q3⟩ := hQ1
        have hl1 := q3.len
        simp only [List.length_append] at hl1
        have hQ2 : ∃ r2, symQ f (p ++ r1 ++ x2 ++ y2 ++ q) d e b = p ++ r1 ++ r2 ++ q ∧ Srt r2 ∧ SP (x2 ++ y2) r2 := by
          rw [symQ]
          by_cases hcc : d < e ∧ e < b
          · rw [if_pos hcc]
            obtain ⟨r, e1, e2, e3⟩ := ih (p ++ r1) x2 y2 q hx.2.1 hy.2.1 (by omega) (by omega) (by omega) (a := d) (m := e) (b := b) (by simp; omega) (by omega) (by omega)
            exact ⟨r, e1, e2, e3⟩
          · rw [if_neg hcc]
            by_cases ex : x2.length = 0
            · rw [List.length_eq_zero_iff] at ex; subst ex; exact ⟨y2, by simp, hy.2.1, .rfl⟩
            · have ey : y2.length = 0 := by omega
              rw [List.length_eq_zero_iff] at ey; subst ey; exact ⟨x2, by simp, hx.2.1, by simpa using SP.rfl⟩
        obtain ⟨r2, q4, q5, q6⟩ := hQ2
        refine ⟨r1 ++ r2, by rw [hR, q1, q4]; simp, Srt_app.2 ⟨q2, q5, ?_⟩, ?_⟩
        · intro u hu v hv
          have hu := q3.mem.1 hu
          have hv := q6.mem.1 hv
          rcases List.mem_append.1 hu with hu | hu <;> rcases List.mem_append.1 hv with hv | hv
          · exact hx.2.2 u hu v hv
          · exact k1 u hu v hv
          · exact ltN_asy (k2 u hu v hv)
          · exact hy.2.2 u hu v hv
        · refine SP.tr ?_ (q3.app q6)
          rw [show x1 ++ x2 ++ (y1 ++ y2) = x1 ++ ((x2 ++ y1) ++ y2) by simp, show x1 ++ y1 ++ (x2 ++ y2) = x1 ++ ((y1 ++ x2) ++ y2) by simp]
          exact SP.app .rfl (SP.app (SP.swap k2) .rfl)

/-- A list of sorted blocks of s places each, the last one shorter perhaps. -/
inductive Blk (s : Nat) : List Note → Prop
  | last (m : List Note) : Srt m → m.length ≤ s → Blk s m
  | cons (m l : List Note) : Srt m → m.length = s → Blk s l → Blk s (m ++ l)
theorem Blk.head {s : Nat} {l : List Note} (h : Blk s l) (hs : s ≤ l.length) : ∃ m q, l = m ++ q ∧ m.length = s ∧ Srt m ∧ Blk s q := by
  cases h with
  | last _ a b => exact ⟨l, [], by simp, by omega, a, .last _ Srt_nil (by simp)⟩
  | cons m q a b c => exact ⟨m, q, rfl, b, a, c⟩
theorem Blk.all {s : Nat} {l : List Note} (h : Blk s l) (hs : l.length ≤ s) : Srt l := by
  cases h with
  | last _ a b => exact a
  | cons m q a b c =>
    simp at hs
    have : q.length = 0 := by omega
    rw [List.length_eq_zero_iff] at this
    subst this; simpa using a

theorem blkF_at : ∀ (k : Nat) (p q : List Note) {a b n : Nat}, q.length ≤ k → a = p.length → b = a + 20 → n = p.length + q.length →
    ∃ r, blkF (p ++ q) a b n = p ++ r ∧ Blk 20 r ∧ SP q r := by
  intro k
  induction k with
  | zero =>
    intro p q a b n hk ha hb hn
    rw [blkF, if_neg (by omega)]
    obtain ⟨m, e, h1, h2⟩ := insS_at p q [] (a := a) (b := n) ha hn
    have := h2.len
    exact ⟨m, by simpa using e, .last _ h1 (by omega), h2⟩
  | succ k ih =>
    intro p q a b n hk ha hb hn
    by_cases h : b ≤ n
    · rw [blkF, if_pos h]
      obtain ⟨u, v, rfl, hu⟩ := cut_at q (n := 20) (by omega)
      simp only [List.length_append] at hk hn
      obtain ⟨m, e, h1, h2⟩ := insS_at p u v (a := a) (b := b) ha (by omega)
      have h3 := h2.len
      obtain ⟨r, e', h4, h5⟩ := ih (p ++ m) v (a := b) (b := b + 20) (n := n) (by omega) (by simp; omega) rfl (by simp; omega)
      exact ⟨m ++ r, by rw [show p ++ (u ++ v) = p ++ u ++ v by simp, e, e']; simp, .cons _ _ h1 (by omega) h4, h2.app h5⟩
    · rw [blkF, if_neg h]
      obtain ⟨m, e, h1, h2⟩ := insS_at p q [] (a := a) (b := n) ha hn
      have := h2.len
      exact ⟨m, by simpa using e, .last _ h1 (by omega), h2⟩

theorem mrgF_at (s : Nat) (hs : 0 < s) : ∀ (k : Nat) (p q : List Note) {a b n : Nat}, q.length ≤ k → Blk s q → a = p.length → b = a + 2 * s → n = p.length + q.length →
    ∃ r, mrgF s (p ++ q) a b n = p ++ r ∧ Blk (2 * s) r ∧ SP q r := by
  intro k
  induction k with
  | zero =>
    intro p q a b n hk hq ha hb hn
    rw [mrgF, if_neg (by omega), if_neg (by omega)]
    exact ⟨q, rfl, .last _ (hq.all (by omega)) (by omega), .rfl⟩
  | succ k ih =>
    intro p q a b n hk hq ha hb hn
    by_cases h : b ≤ n
    · rw [mrgF, if_pos ⟨h, hs⟩]
      obtain ⟨u, v', rfl, hu, su, hv'⟩ := hq.head (by omega)
      simp only [List.length_append] at hk hn
      obtain ⟨v, w, rfl, hv, sv, hw⟩ := hv'.head (by omega)
      simp only [List.length_append] at hk hn
      obtain ⟨m, e, h1, h2⟩ := symM_at n p u v w su sv (by omega) (by omega) (by omega) (a := a) (m := a + s) (b := b) ha (by omega) (by omega)
      have h3 := h2.len
      simp only [List.length_append] at h3
      obtain ⟨r, e', h4, h5⟩ := ih (p ++ m) w (a := b) (b := b + 2 * s) (n := n) (by omega) hw (by simp; omega) rfl (by simp; omega)
      refine ⟨m ++ r, by rw [show p ++ (u ++ (v ++ w)) = p ++ u ++ v ++ w by simp, e, e']; simp, .cons _ _ h1 (by omega) h4, ?_⟩
      rw [← List.append_assoc]; exact h2.app h5
    · rw [mrgF, if_neg (by omega)]
      by_cases h' : a + s < n
      · rw [if_pos h']
        obtain ⟨u, v, rfl, hu, su, hv⟩ := hq.head (by omega)
        simp only [List.length_append] at hk hn
        obtain ⟨m, e, h1, h2⟩ := symM_at n p u v [] su (hv.all (by omega)) (by omega) (by omega) (by omega) (a := a) (m := a + s) (b := n) ha (by omega) (by omega)
        have h3 := h2.len
        simp only [List.length_append] at h3
        exact ⟨m, by simpa using e, .last _ h1 (by omega), h2⟩
      · rw [if_neg h']
        exact ⟨q, rfl, .last _ (hq.all (by omega)) (by omega), .rfl⟩

theorem dblF_at : ∀ (k : Nat) (l : List Note) (s : Nat) {n : Nat}, n - s ≤ k → 0 < s → Blk s l → n = l.length → Srt (dblF l s n) ∧ SP l (dblF l s n) := by
  intro k
  induction k with
  | zero =>
    intro l s n hk hs hl hn
    rw [dblF, if_neg (by omega)]
    exact ⟨hl.all (by omega), .rfl⟩
  | succ k ih =>
    intro l s n hk hs hl hn
    by_cases h : s < n
    · rw [dblF, if_pos ⟨h, hs⟩]
      obtain ⟨r, e, h1, h2⟩ := mrgF_at s hs l.length [] l (a := 0) (b := 2 * s) (n := n) (Nat.le_refl _) hl rfl (by omega) (by simp [hn])
      simp only [List.nil_append] at e
      rw [e]
      have := ih r (s * 2) (n := n) (by omega) (by omega) (by rw [Nat.mul_comm]; exact h1) (by rw [h2.len, hn])
      exact ⟨this.1, h2.tr this.2⟩
    · rw [dblF, if_neg (by omega)]
      exact ⟨hl.all (by omega), .rfl⟩

theorem stabM_srt (l : List Note) : Srt (stabM l) ∧ SP l (stabM l) := by
  obtain ⟨r, e, h1, h2⟩ := blkF_at l.length [] l (a := 0) (b := 20) (n := l.length) (Nat.le_refl _) rfl rfl (by simp)
  simp only [List.nil_append] at e
  rw [stabM, e]
  have := dblF_at _ r 20 (n := l.length) (Nat.le_refl _) (by omega) h1 h2.len.symm
  exact ⟨this.1, h2.tr this.2⟩

/-- The document's way: each one put behind those that are not greater. -/
def puN (n : Note) : List Note → List Note
  | [] => [n]
  | x :: l => if ltN n x = true then x :: puN n l else n :: x :: l
def putN (l : List Note) (n : Note) : List Note := (puN n l.reverse).reverse
theorem puN_spec (n : Note) : ∀ l : List Note, ∃ v u, l = v ++ u ∧ puN n l = v ++ n :: u ∧ (∀ x ∈ v, ltN n x = true) ∧ (u = [] ∨ ∃ y u', u = y :: u' ∧ ltN n y = false) := by
  intro l
  induction l with
  | nil => exact ⟨[], [], rfl, rfl, by simp, .inl rfl⟩
  | cons x l ih =>
    cases h : ltN n x with
    | true =>
      obtain ⟨v, u, e1, e2, e3, e4⟩ := ih
      refine ⟨x :: v, u, by rw [e1]; rfl, by rw [puN, if_pos h, e2]; rfl, ?_, e4⟩
      intro y hy
      rcases List.mem_cons.1 hy with e | e
      · rw [e]; exact h
      · exact e3 y e
    | false => exact ⟨[], x :: l, rfl, by rw [puN, if_neg (by rw [h]; simp)]; rfl, by simp, .inr ⟨x, l, rfl, h⟩⟩
theorem putN_srt {l : List Note} (h : Srt l) (n : Note) : Srt (putN l n) ∧ SP (l ++ [n]) (putN l n) := by
  obtain ⟨v, u, e1, e2, e3, e4⟩ := puN_spec n l.reverse
  have e : l = u.reverse ++ v.reverse := by rw [← List.reverse_append, ← e1, List.reverse_reverse]
  have ep : putN l n = u.reverse ++ ([n] ++ v.reverse) := by rw [putN, e2]; simp
  rw [ep]
  subst e
  have hs := Srt_app.1 h
  have hu' : ∀ x ∈ u.reverse, ltN n x = false := by
    rcases e4 with e | ⟨y, u', e, hy⟩
    · rw [e]; intro x hx; simp at hx
    · rw [e, List.reverse_cons] at hs ⊢
      intro x hx
      exact leN_tr (Srt_last hs.1 x hx) hy
  have hv' : ∀ x ∈ v.reverse, ltN n x = true := fun x hx => e3 x (List.mem_reverse.1 hx)
  refine ⟨Srt_app.2 ⟨hs.1, List.pairwise_cons.2 ⟨fun x hx => ltN_asy (hv' x hx), hs.2.1⟩, ?_⟩, ?_⟩
  · intro x hx y hy
    rcases List.mem_cons.1 hy with e | e
    · rw [e]; exact hu' x hx
    · exact hs.2.2 x hx y e
  · rw [List.append_assoc]
    refine SP.app .rfl ?_
    exact SP.swap (u := v.reverse) (v := [n]) (fun x hx y hy => by rw [List.mem_singleton] at hx; rw [hx]; exact hv' y hy)
theorem puts_srt : ∀ (l a : List Note), Srt a → Srt (l.foldl putN a) ∧ SP (a ++ l) (l.foldl putN a) := by
  intro l
  induction l with
  | nil => intro a h; exact ⟨h, by simpa using SP.rfl⟩
  | cons x l ih =>
    intro a h
    have h1 := putN_srt h x
    have h2 := ih _ h1.1
    refine ⟨h2.1, SP.tr ?_ h2.2⟩
    rw [show a ++ x :: l = (a ++ [x]) ++ l by simp]
    exact h1.2.app .rfl
/-- Both ways end alike. -/
theorem stab_puts (l : List Note) : stabM l = l.foldl putN [] := by
  have h1 := stabM_srt l
  have h2 := puts_srt l [] Srt_nil
  rw [List.nil_append] at h2
  exact Srt_uniq h1.1 h2.1 (h1.2.sym.tr h2.2)
end Pl

/- Notices: what a loan gives rise to, and a row of notices that a call hands over. -/
namespace Pl
open Go Ab

def loanN (n : Loan) (today ahead : Int) : List Note :=
  (if n.rcl = true then [⟨4, n.patron, n.item, n.due⟩] else []) ++ (if n.due < today then [⟨2, n.patron, n.item, n.due⟩] else if IntKind.i64.wrap (n.due - today) ≤ ahead then [⟨1, n.patron, n.item, n.due⟩] else [])
theorem loanN_len (n : Loan) (today ahead : Int) : (loanN n today ahead).length ≤ 2 := by
  unfold loanN
  rw [List.length_append]
  split <;> split <;> (try split) <;> simp
/-- A note's cells. -/
def noteV (n : Note) : List Value := [.int .i64 n.kind, .int .i64 n.patron, .int .i64 n.item, .int .i64 n.day]
def noteVs (l : List Note) : List Value := l.flatMap noteV
theorem noteVs_len (l : List Note) : (noteVs l).length = l.length * 4 := by
  induction l with
  | nil => rfl
  | cons n l ih => simp only [noteVs, List.flatMap_cons, List.length_append] at ih ⊢; rw [ih]; simp [noteV]; omega
theorem noteVs_get : ∀ (l : List Note) (i j : Nat) (n : Note), l[i]? = some n → j < 4 → (noteVs l)[i * 4 + j]? = (noteV n)[j]?
  | [], i, j, n, h, _ => by simp at h
  | m :: l, 0, j, n, h, hj => by
    simp at h; subst h
    simp only [noteVs, List.flatMap_cons]
    rw [List.getElem?_append_left (by simp [noteV]; omega)]; simp
  | m :: l, i + 1, j, n, h, hj => by
    have ih := noteVs_get l i j n (by simpa using h) hj
    simp only [noteVs, List.flatMap_cons] at ih ⊢
    rw [List.getElem?_append_right (by simp [noteV]; omega), ← ih]
    congr 1
    simp [noteV]; omega
def i64ok (n : Int) : Prop := IntKind.i64.min ≤ n ∧ n ≤ IntKind.i64.max
def NoteOk (n : Note) : Prop := i64ok n.kind ∧ i64ok n.patron ∧ i64ok n.item ∧ i64ok n.day
theorem own_notes {w w' : World} {S : Nat → Nat → Prop} {base e : Nat} {v : Value} {l : List Note} (h : w'.ownsRow base e 4 v l.length (noteVs l)) (hb : w.heap.size ≤ base) (hr : ∀ n ∈ l, NoteOk n) :
    RetRel w w' S (.own (encNote zn) (noteL l)) v := by
  obtain ⟨_, h⟩ := h
  rcases h with ⟨rfl, hn⟩ | ⟨g, cap, cur, rfl, hg, hh, hnc, hcm, hsz, htake⟩
  · refine ⟨none, ?_, fun b hb => by cases hb⟩
    exact .inl ⟨by simpa using hn, none, by simp [hn]⟩
  · refine ⟨some g, .inr ⟨g, cap, cur, e, rfl, by simp, .inl hh, hsz, by simpa using hnc, hcm⟩, ?_⟩
    intro b hbb
    obtain rfl := Option.some.inj hbb
    refine ⟨by omega, (Array.getElem?_eq_some_iff.1 hh).1, ?_, cur, e, .inl hh, ?_, ?_⟩
    · intro x hx
      obtain ⟨n, hn, rfl⟩ := List.mem_map.1 hx
      refine ⟨rfl, fun c hc => ?_⟩
      simp at hc
      rcases hc with rfl | rfl | rfl | rfl <;> rfl
    · show (noteL l).length * 4 ≤ cur.size
      rw [noteL_length, hsz]; omega
    · intro i x j c hi hj
      simp only [noteL, List.getElem?_map, Option.map_eq_some_iff] at hi
      obtain ⟨n, hi, rfl⟩ := hi
      have hj4 : j < 4 := by simpa using (List.getElem?_eq_some_iff.1 hj).1
      have hil := (List.getElem?_eq_some_iff.1 hi).1
      have hlt : i * 4 + j < l.length * 4 := by omega
      have h1 := noteVs_get l i j n hi hj4
      rw [← htake, List.getElem?_take_of_lt (by omega)] at h1
      obtain ⟨r1, r2, r3, r4⟩ := hr n (List.mem_of_getElem? hi)
      show Rep _ _ c (cur.getD (i * 4 + j) undef)
      rw [Array.getD_eq_getD_getElem?, ← Array.getElem?_toList, h1]
      match j, hj, hj4 with
      | 0, hj, _ => simp at hj; subst hj; exact .int _ _ r1
      | 1, hj, _ => simp at hj; subst hj; exact .int _ _ r2
      | 2, hj, _ => simp at hj; subst hj; exact .int _ _ r3
      | 3, hj, _ => simp at hj; subst hj; exact .int _ _ r4
end Pl

/- Custody of items: what the functions compute. -/
namespace Pl
open Go Ab
set_option linter.unusedVariables false
set_option linter.unusedSimpArgs false

structure Custody where
  st : Int
  br : Int
  who : Int
  to : Int
  deriving DecidableEq
structure Mv where
  day : Int
  item : Int
  kind : Int
  br : Int
  who : Int
  deriving DecidableEq
def encCus (c : Custody) : D := .agg [.int .i64 c.st, .int .i64 c.br, .int .i64 c.who, .int .i64 c.to]
theorem encCus_eq (c : Custody) : encCus c = .agg [.int .i64 c.st, .int .i64 c.br, .int .i64 c.who, .int .i64 c.to] := rfl
def encMove (m : Mv) : D := .agg [.int .i64 m.day, .int .i64 m.item, .int .i64 m.kind, .int .i64 m.br, .int .i64 m.who]
theorem encMove_eq (m : Mv) : encMove m = .agg [.int .i64 m.day, .int .i64 m.item, .int .i64 m.kind, .int .i64 m.br, .int .i64 m.who] := rfl
@[simp] theorem encMove_cells (m : Mv) : (encMove m).cells = [.int .i64 m.day, .int .i64 m.item, .int .i64 m.kind, .int .i64 m.br, .int .i64 m.who] := rfl
def zm : Mv := ⟨0, 0, 0, 0, 0⟩
def encMoves (l : List Mv) : D := .slice (encMove zm) (l.map encMove)
theorem encMoves_eq (l : List Mv) : encMoves l = .slice (encMove zm) (l.map encMove) := rfl
def encInts' (l : List Int) : D := .slice (.int .i64 0) (l.map (D.int .i64))
theorem encInts'_eq (l : List Int) : encInts' l = .slice (.int .i64 0) (l.map (D.int .i64)) := rfl

def wiB (n a b : Int) : Bool := decide (a ≤ n) && decide (n ≤ b)
def PersC (s : Int) : Prop := s = 4 ∨ s = 5 ∨ s = 8 ∨ s = 9 ∨ s = 10
instance (s : Int) : Decidable (PersC s) := by unfold PersC; infer_instance
def persB (s : Int) : Bool := (((s == 4 || s == 5) || s == 8) || s == 9) || s == 10
def RightC (c : Custody) : Prop :=
  (1 ≤ c.st ∧ c.st ≤ 12 ∧ 1 ≤ c.br ∧ c.br ≤ 4) ∧
  ((c.st = 6 ∧ 0 ≤ c.who ∧ c.who ≤ 9999 ∧ 1 ≤ c.to ∧ c.to ≤ 4 ∧ ¬ c.to = c.br) ∨ (PersC c.st ∧ 1 ≤ c.who ∧ c.who ≤ 9999 ∧ c.to = 0) ∨ (¬ c.st = 6 ∧ ¬ PersC c.st ∧ c.who = 0 ∧ c.to = 0))
instance (c : Custody) : Decidable (RightC c) := by unfold RightC; infer_instance
def rightB (c : Custody) : Bool := decide (RightC c)
theorem rightB_iff {c : Custody} : rightB c = true ↔ ((1 ≤ c.st ∧ c.st ≤ 12 ∧ 1 ≤ c.br ∧ c.br ≤ 4) ∧
    ((c.st = 6 ∧ 0 ≤ c.who ∧ c.who ≤ 9999 ∧ 1 ≤ c.to ∧ c.to ≤ 4 ∧ ¬ c.to = c.br) ∨ ((c.st = 4 ∨ c.st = 5 ∨ c.st = 8 ∨ c.st = 9 ∨ c.st = 10) ∧ 1 ≤ c.who ∧ c.who ≤ 9999 ∧ c.to = 0) ∨ (¬ c.st = 6 ∧ ¬ (c.st = 4 ∨ c.st = 5 ∨ c.st = 8 ∨ c.st = 9 ∨ c.st = 10) ∧ c.who = 0 ∧ c.to = 0))) := by
  unfold rightB; rw [decide_eq_true_eq]; rfl
def awayB (c : Custody) : Bool := decide (c.st = 4 ∨ c.st = 8 ∨ c.st = 7 ∨ c.st = 6 ∨ c.st = 9)
def statesL (k : Int) : List Int :=
  if k = 1 then [1] else if k = 2 then [2, 5] else if k = 3 then [3, 5] else if k = 4 then [4, 8, 9, 10] else if k = 5 ∨ k = 8 then [2, 3] else if k = 6 then [2, 3, 5]
  else if k = 7 then [6] else if k = 9 then [7] else if k = 10 then [3] else if k = 11 then [4] else if k = 12 then [4, 9] else if k = 13 then [2, 3, 5, 6, 7] else if k = 14 then [11]
  else if k = 15 then [1, 2, 3, 11, 10] else []
def allowB (s k : Int) : Bool := (statesL k).contains s
def memF (s : Int) : Unit → List Int → Bool
  | _, [] => false
  | _, x :: l => if x = s then true else memF s () l
theorem memF_eq (s : Int) : ∀ l, memF s () l = l.contains s
  | [] => rfl
  | x :: l => by
    simp only [memF, List.contains_cons, memF_eq s l]
    by_cases h : x = s
    · subst h; simp
    · have : ¬ s = x := fun e => h e.symm
      simp [h, this]
def movesL : List Int := [0, 32770, 41316, 42344, 6160, 8268, 8320, 8704, 16, 4112, 32784, 49152, 0]
def bitB (s k : Int) : Bool := bits BinOp.and IntKind.u16 ((movesL[s.toNat]?.getD 0).fdiv (2 ^ min k.toNat IntKind.u16.bits)) 1 == 1
theorem bit_all : ∀ (s : Fin 13) (k : Fin 16), (1 ≤ s.val ∧ s.val ≤ 12 ∧ 1 ≤ k.val ∧ k.val ≤ 15) → bitB (s.val : Int) (k.val : Int) = allowB (s.val : Int) (k.val : Int) := by decide +kernel
theorem states_rng : ∀ (k : Fin 16), ∀ x ∈ statesL (k.val : Int), 1 ≤ x ∧ x ≤ 12 ∧ 1 ≤ k.val := by decide +kernel
theorem states_out {k : Int} (h : ¬ (1 ≤ k ∧ k ≤ 15)) : statesL k = [] := by
  simp [statesL, show ¬ k = 1 by omega, show ¬ k = 2 by omega, show ¬ k = 3 by omega, show ¬ k = 4 by omega, show ¬ k = 5 by omega, show ¬ k = 6 by omega, show ¬ k = 7 by omega, show ¬ k = 8 by omega,
    show ¬ k = 9 by omega, show ¬ k = 10 by omega, show ¬ k = 11 by omega, show ¬ k = 12 by omega, show ¬ k = 13 by omega, show ¬ k = 14 by omega, show ¬ k = 15 by omega]
theorem states_len5 : ∀ (k : Fin 16), (statesL (k.val : Int)).length ≤ 5 := by decide +kernel
theorem states_len (k : Int) : (statesL k).length ≤ 5 := by
  by_cases hk : 1 ≤ k ∧ k ≤ 15
  · have := states_len5 ⟨k.toNat, by omega⟩
    simpa only [show ((k.toNat : Nat) : Int) = k by omega] using this
  · rw [states_out hk]; simp
theorem allow_in {s k : Int} (h : allowB s k = true) : (1 ≤ s ∧ s ≤ 12) ∧ 1 ≤ k ∧ k ≤ 15 := by
  by_cases hk : 1 ≤ k ∧ k ≤ 15
  · have hm : s ∈ statesL k := by unfold allowB at h; rwa [List.contains_iff_mem] at h
    have := states_rng ⟨k.toNat, by omega⟩ s (by simp only [show ((k.toNat : Nat) : Int) = k by omega]; exact hm)
    omega
  · unfold allowB at h
    rw [states_out hk] at h
    simp at h
theorem allow_eq (s k : Int) : allowB s k = ((wiB s 1 12 && wiB k 1 15) && bitB s k) := by
  by_cases h : (1 ≤ s ∧ s ≤ 12) ∧ 1 ≤ k ∧ k ≤ 15
  · have := bit_all ⟨s.toNat, by omega⟩ ⟨k.toNat, by omega⟩ (by simp only; omega)
    simp only [show ((s.toNat : Nat) : Int) = s by omega, show ((k.toNat : Nat) : Int) = k by omega] at this
    rw [← this]
    simp [wiB, h.1.1, h.1.2, h.2.1, h.2.2]
  · have h1 : allowB s k = false := by
      cases ha : allowB s k with
      | false => rfl
      | true => exact absurd (allow_in ha) h
    have h2 : (wiB s 1 12 && wiB k 1 15) = false := by
      rw [Bool.eq_false_iff]
      simp only [wiB, ne_eq, Bool.and_eq_true, decide_eq_true_eq]
      exact h
    rw [h1, h2]; rfl
def MoveC (m : Mv) : Prop := 0 ≤ m.day ∧ m.day ≤ 109572 ∧ 1 ≤ m.item ∧ m.item ≤ 9999 ∧ 1 ≤ m.kind ∧ m.kind ≤ 15 ∧ 1 ≤ m.br ∧ m.br ≤ 4 ∧ 0 ≤ m.who ∧ m.who ≤ 9999
instance (m : Mv) : Decidable (MoveC m) := by unfold MoveC; infer_instance
def moveB (m : Mv) : Bool := decide (MoveC m)
theorem moveB_iff {m : Mv} : moveB m = true ↔ (0 ≤ m.day ∧ m.day ≤ 109572 ∧ 1 ≤ m.item ∧ m.item ≤ 9999 ∧ 1 ≤ m.kind ∧ m.kind ≤ 15 ∧ 1 ≤ m.br ∧ m.br ≤ 4 ∧ 0 ≤ m.who ∧ m.who ≤ 9999) := by unfold moveB; rw [decide_eq_true_eq]; rfl
def c00 : Custody := ⟨0, 0, 0, 0⟩
def chkR (c : Custody) (ok : Bool) : Custody × Int := if ok = true then (c, 0) else (c00, 1)
/-- does the move have the branch and the person that the table asks for -/
def fitB (c : Custody) (m : Mv) : Bool :=
  if m.kind = 1 ∨ m.kind = 4 ∨ m.kind = 9 ∨ m.kind = 14 then m.who == 0
  else if m.kind = 7 then m.who == 0 && m.br == c.to
  else if m.kind = 6 then m.br != c.br
  else if m.kind = 3 ∨ m.kind = 5 ∨ m.kind = 10 then m.br == c.br && decide (1 ≤ m.who)
  else m.br == c.br && m.who == 0
/-- the state behind a move -/
def aftR (k : Int) : Int :=
  if k = 1 ∨ k = 4 ∨ k = 7 ∨ k = 9 ∨ k = 14 then 2 else if k = 2 then 3 else if k = 3 then 4 else if k = 5 then 5 else if k = 6 then 6 else if k = 8 then 7 else if k = 10 then 8
  else if k = 11 then 9 else if k = 12 then 10 else if k = 13 then 11 else 12
def movR (c : Custody) (m : Mv) : Custody :=
  if aftR m.kind = 2 then ⟨2, m.br, 0, 0⟩
  else if aftR m.kind = 4 ∨ aftR m.kind = 5 ∨ aftR m.kind = 8 then ⟨aftR m.kind, c.br, m.who, 0⟩
  else if aftR m.kind = 6 then ⟨6, c.br, m.who, m.br⟩
  else if aftR m.kind = 9 ∨ aftR m.kind = 10 then ⟨aftR m.kind, c.br, c.who, 0⟩
  else ⟨aftR m.kind, c.br, 0, 0⟩
def applyR (c : Custody) (m : Mv) : Custody × Int :=
  if rightB c = false ∨ moveB m = false then (c00, 1)
  else if allowB c.st m.kind = false then (c00, 12)
  else if (m.kind = 3 ∧ c.st = 5) ∧ ¬ m.who = c.who then (c00, 16)
  else if fitB c m = false then (c00, 1) else (movR c m, 0)
section
variable {c : Custody} {m : Mv}
theorem app_a (h : rightB c = false ∨ moveB m = false) : applyR c m = (c00, 1) := if_pos h
theorem app_n (h : rightB c = true ∧ moveB m = true) : ¬ (rightB c = false ∨ moveB m = false) := by simp [h.1, h.2]
theorem app_b (h : rightB c = true ∧ moveB m = true) (h2 : allowB c.st m.kind = false) : applyR c m = (c00, 12) := by unfold applyR; rw [if_neg (app_n h), if_pos h2]
theorem app_c (h : rightB c = true ∧ moveB m = true) (h2 : allowB c.st m.kind = true) (h3 : (m.kind = 3 ∧ c.st = 5) ∧ ¬ m.who = c.who) : applyR c m = (c00, 16) := by
  unfold applyR; rw [if_neg (app_n h), if_neg (by simp [h2]), if_pos h3]
theorem app_d (h : rightB c = true ∧ moveB m = true) (h2 : allowB c.st m.kind = true) (h3 : ¬ ((m.kind = 3 ∧ c.st = 5) ∧ ¬ m.who = c.who)) : applyR c m = if fitB c m = false then (c00, 1) else (movR c m, 0) := by
  unfold applyR; rw [if_neg (app_n h), if_neg (by simp [h2]), if_neg h3]
theorem app_e (h : rightB c = true ∧ moveB m = true) (h2 : allowB c.st m.kind = true) (h3 : ¬ ((m.kind = 3 ∧ c.st = 5) ∧ ¬ m.who = c.who)) (h4 : fitB c m = false) : applyR c m = (c00, 1) := by rw [app_d h h2 h3, if_pos h4]
theorem app_f (h : rightB c = true ∧ moveB m = true) (h2 : allowB c.st m.kind = true) (h3 : ¬ ((m.kind = 3 ∧ c.st = 5) ∧ ¬ m.who = c.who)) (h4 : fitB c m = true) : applyR c m = (movR c m, 0) := by rw [app_d h h2 h3, if_neg (by simp [h4])]
end
def repF (b : Int) (item : Int) : Custody × Nat → List Mv → Custody × Int × Int
  | (c, _), [] => (c, -1, 0)
  | (c, k), m :: l => if ¬ m.item = item then repF b item (c, k + 1) l else if ¬ (applyR c m).2 = 0 then (c00, (k : Int), (applyR c m).2) else repF b item ((applyR c m).1, k + 1) l
def replayR (b : Int) (l : List Mv) (item : Int) : Custody × Int × Int := if b < 1 ∨ 4 < b then (c00, -1, 1) else repF b item (⟨1, b, 0, 0⟩, 0) l
theorem rep_bad {b item : Int} {l : List Mv} (h : b < 1 ∨ 4 < b) : replayR b l item = (c00, -1, 1) := if_pos h
theorem rep_ok {b item : Int} {l : List Mv} (h : 1 ≤ b ∧ b ≤ 4) : replayR b l item = repF b item (⟨1, b, 0, 0⟩, 0) l := if_neg (by omega)
/-- the switch of the program -/
def progR (c : Custody) (m : Mv) : Custody × Int :=
  if m.kind = 1 ∨ m.kind = 4 ∨ m.kind = 9 ∨ m.kind = 14 then chkR ⟨2, m.br, m.who, 0⟩ (m.who == 0)
  else if m.kind = 7 then chkR ⟨2, m.br, m.who, 0⟩ (m.who == 0 && m.br == c.to)
  else if m.kind = 6 then chkR ⟨6, c.br, m.who, m.br⟩ (!(m.br == c.br))
  else if m.kind = 3 then chkR ⟨4, m.br, m.who, 0⟩ (m.br == c.br && !(m.who == 0))
  else if m.kind = 5 then chkR ⟨5, m.br, m.who, 0⟩ (m.br == c.br && !(m.who == 0))
  else if m.kind = 10 then chkR ⟨8, m.br, m.who, 0⟩ (m.br == c.br && !(m.who == 0))
  else if m.kind = 2 then chkR ⟨3, m.br, m.who, 0⟩ (m.br == c.br && m.who == 0)
  else if m.kind = 8 then chkR ⟨7, m.br, m.who, 0⟩ (m.br == c.br && m.who == 0)
  else if m.kind = 11 then chkR ⟨9, c.br, c.who, 0⟩ (m.br == c.br && m.who == 0)
  else if m.kind = 12 then chkR ⟨10, c.br, c.who, 0⟩ (m.br == c.br && m.who == 0)
  else if m.kind = 13 then chkR ⟨11, m.br, m.who, 0⟩ (m.br == c.br && m.who == 0)
  else if m.kind = 15 then chkR ⟨12, m.br, m.who, 0⟩ (m.br == c.br && m.who == 0)
  else chkR ⟨0, m.br, m.who, 0⟩ false
theorem progR_eq {c : Custody} {m : Mv} (h : moveB m = true) : progR c m = if fitB c m = false then (c00, 1) else (movR c m, 0) := by
  rw [moveB_iff] at h
  have hk : m.kind = 1 ∨ m.kind = 2 ∨ m.kind = 3 ∨ m.kind = 4 ∨ m.kind = 5 ∨ m.kind = 6 ∨ m.kind = 7 ∨ m.kind = 8 ∨ m.kind = 9 ∨ m.kind = 10 ∨ m.kind = 11 ∨ m.kind = 12 ∨ m.kind = 13 ∨ m.kind = 14 ∨ m.kind = 15 := by omega
  have hw : m.who = 0 ∨ (¬ m.who = 0 ∧ 1 ≤ m.who) := by omega
  rcases hw with hw | ⟨hw, hw1⟩
  · by_cases hb : m.br = c.br
    · by_cases ht : m.br = c.to
      · rcases hk with hk | hk | hk | hk | hk | hk | hk | hk | hk | hk | hk | hk | hk | hk | hk <;> simp [progR, chkR, fitB, movR, aftR, hk, hw, ← hb, ← ht]
      · rcases hk with hk | hk | hk | hk | hk | hk | hk | hk | hk | hk | hk | hk | hk | hk | hk <;> rw [hb] at ht <;> simp [progR, chkR, fitB, movR, aftR, hk, hw, hb, ht]
    · by_cases ht : m.br = c.to
      · rcases hk with hk | hk | hk | hk | hk | hk | hk | hk | hk | hk | hk | hk | hk | hk | hk <;> rw [ht] at hb <;> simp [progR, chkR, fitB, movR, aftR, hk, hw, hb, ht]
      · rcases hk with hk | hk | hk | hk | hk | hk | hk | hk | hk | hk | hk | hk | hk | hk | hk <;> simp [progR, chkR, fitB, movR, aftR, hk, hw, hb, ht]
  · by_cases hb : m.br = c.br
    · rcases hk with hk | hk | hk | hk | hk | hk | hk | hk | hk | hk | hk | hk | hk | hk | hk <;> simp [progR, chkR, fitB, movR, aftR, hk, hw, hw1, hb]
    · rcases hk with hk | hk | hk | hk | hk | hk | hk | hk | hk | hk | hk | hk | hk | hk | hk <;> simp [progR, chkR, fitB, movR, aftR, hk, hw, hw1, hb]
theorem app_p {c : Custody} {m : Mv} (h : rightB c = true ∧ moveB m = true) (h2 : allowB c.st m.kind = true) (h3 : ¬ ((m.kind = 3 ∧ c.st = 5) ∧ ¬ m.who = c.who)) : applyR c m = progR c m := by
  rw [app_d h h2 h3, progR_eq h.2]
end Pl

/- Notices: the state's other parts, and what the functions of the chapter compute. -/
namespace Pl
open Go Ab
set_option linter.unusedVariables false

def encNotes (l : List Note) : D := .slice (encNote zn) (noteL l)
theorem encNotes_eq (l : List Note) : encNotes l = .slice (encNote zn) (noteL l) := rfl
theorem encNotes_map (l : List Note) : encNotes l = .slice (encNote zn) (l.map encNote) := rfl

structure Patr where
  id : Int
  kind : Int
  br : Int
  til : Int
  stop : Bool
  name : List UInt8
  deriving DecidableEq
def encPatr (p : Patr) : D := .agg [.int .i64 p.id, .int .i64 p.kind, .int .i64 p.br, .int .i64 p.til, .bool p.stop, .str p.name]
theorem encPatr_eq (p : Patr) : encPatr p = .agg [.int .i64 p.id, .int .i64 p.kind, .int .i64 p.br, .int .i64 p.til, .bool p.stop, .str p.name] := rfl
def zPatr : Patr := ⟨0, 0, 0, 0, false, []⟩
def encPatrs (l : List Patr) : D := .slice (encPatr zPatr) (l.map encPatr)
theorem encPatrs_eq (l : List Patr) : encPatrs l = .slice (encPatr zPatr) (l.map encPatr) := rfl

structure Itm where
  id : Int
  rcd : Int
  br : Int
  kind : Int
  price : Int
  call : List UInt8
  cus : Custody
def encItm (x : Itm) : D := .agg [.int .i64 x.id, .int .i64 x.rcd, .int .i64 x.br, .int .i64 x.kind, .int .i64 x.price, .str x.call, .int .i64 x.cus.st, .int .i64 x.cus.br, .int .i64 x.cus.who, .int .i64 x.cus.to]
def zItm : Itm := ⟨0, 0, 0, 0, 0, [], ⟨0, 0, 0, 0⟩⟩
def encItms (l : List Itm) : D := .slice (encItm zItm) (l.map encItm)
theorem encItms_eq (l : List Itm) : encItms l = .slice (encItm zItm) (l.map encItm) := rfl

def zLoan : Loan := ⟨0, 0, 0, 0, 0, false⟩
def encLoans (l : List Loan) : D := .slice (encLoan zLoan) (l.map encLoan)
theorem encLoans_eq (l : List Loan) : encLoans l = .slice (encLoan zLoan) (l.map encLoan) := rfl

structure Hld where
  id : Int
  patron : Int
  rcd : Int
  item : Int
  pick : Int
  placed : Int
  st : Int
  got : Int
  til : Int
  asleep : Int
  rank : Int
def encHld (h : Hld) : D := .agg [.int .i64 h.id, .int .i64 h.patron, .int .i64 h.rcd, .int .i64 h.item, .int .i64 h.pick, .int .i64 h.placed, .int .i64 h.st, .int .i64 h.got, .int .i64 h.til, .int .i64 h.asleep, .int .i64 h.rank]
theorem encHld_eq (h : Hld) : encHld h = .agg [.int .i64 h.id, .int .i64 h.patron, .int .i64 h.rcd, .int .i64 h.item, .int .i64 h.pick, .int .i64 h.placed, .int .i64 h.st, .int .i64 h.got, .int .i64 h.til, .int .i64 h.asleep, .int .i64 h.rank] := rfl
def zHld : Hld := ⟨0, 0, 0, 0, 0, 0, 0, 0, 0, 0, 0⟩
def encHlds (l : List Hld) : D := .slice (encHld zHld) (l.map encHld)
theorem encHlds_eq (l : List Hld) : encHlds l = .slice (encHld zHld) (l.map encHld) := rfl

structure Cals where
  c0 : Cal
  c1 : Cal
  c2 : Cal
  c3 : Cal
def encCals (q : Cals) : D := .agg [.int .i64 q.c0.week, encInts q.c0.closed, .int .i64 q.c1.week, encInts q.c1.closed, .int .i64 q.c2.week, encInts q.c2.closed, .int .i64 q.c3.week, encInts q.c3.closed]

structure Circ where
  today : Int
  items : List Itm
  patrons : List Patr
  loans : List Loan
  holds : List Hld
  charges : List Charge
  rules : List Rule
  cals : Cals
  moves : List Mv
  nh : Int
  nc : Int
  loc : Bool
def encCirc (c : Circ) : D := .agg [.int .i64 c.today, encItms c.items, encPatrs c.patrons, encLoans c.loans, encHlds c.holds, encCharges c.charges, encRules c.rules,
  .int .i64 c.cals.c0.week, encInts c.cals.c0.closed, .int .i64 c.cals.c1.week, encInts c.cals.c1.closed, .int .i64 c.cals.c2.week, encInts c.cals.c2.closed, .int .i64 c.cals.c3.week, encInts c.cals.c3.closed,
  encMoves c.moves, .int .i64 c.nh, .int .i64 c.nc, .bool c.loc]
theorem encCirc_eq (c : Circ) : encCirc c = .agg [.int .i64 c.today, encItms c.items, encPatrs c.patrons, encLoans c.loans, encHlds c.holds, encCharges c.charges, encRules c.rules,
  .int .i64 c.cals.c0.week, encInts c.cals.c0.closed, .int .i64 c.cals.c1.week, encInts c.cals.c1.closed, .int .i64 c.cals.c2.week, encInts c.cals.c2.closed, .int .i64 c.cals.c3.week, encInts c.cals.c3.closed,
  encMoves c.moves, .int .i64 c.nh, .int .i64 c.nc, .bool c.loc] := rfl

/-- Two lists, place by place. -/
def samN : List Note → List Note → Bool
  | _, [] => true
  | [], _ :: _ => false
  | y :: b, x :: a => if x = y then samN b a else false
theorem samN_eq : ∀ (a b : List Note), a.length = b.length → samN b a = decide (a = b)
  | [], [], _ => by simp [samN]
  | x :: a, y :: b, h => by
    rw [samN, samN_eq a b (by simpa using h)]
    by_cases hxy : x = y
    · subst hxy; simp
    · simp [hxy]
theorem note_eq (x y : Note) : x = y ↔ ((x.kind = y.kind ∧ x.patron = y.patron) ∧ x.item = y.item) ∧ x.day = y.day := by
  cases x; cases y; simp [and_assoc]
/-- The notices of one patron. -/
def forF (p : Int) : List Note → List Note → List Note
  | o, [] => o
  | o, x :: l => forF p (if x.patron = p then o ++ [x] else o) l
def forN (l : List Note) (p : Int) : List Note := forF p [] l
theorem forF_eq (p : Int) : ∀ (l o : List Note), forF p o l = o ++ l.filter (fun x => decide (x.patron = p))
  | [], o => by simp [forF]
  | x :: l, o => by
    rw [forF, forF_eq p l]
    by_cases h : x.patron = p <;> simp [h]
theorem forN_eq (l : List Note) (p : Int) : forN l p = l.filter (fun x => decide (x.patron = p)) := by rw [forN, forF_eq]; simp
theorem forN_len (l : List Note) (p : Int) : (forN l p).length ≤ l.length := by rw [forN_eq]; exact List.length_filter_le _ _
/-- Five counts. -/
structure Cnt where
  c0 : Int
  c1 : Int
  c2 : Int
  c3 : Int
  c4 : Int
  deriving DecidableEq
def bump (c : Cnt) (k : Int) : Cnt :=
  if k = 1 then { c with c1 := c.c1 + 1 } else if k = 2 then { c with c2 := c.c2 + 1 } else if k = 3 then { c with c3 := c.c3 + 1 } else if k = 4 then { c with c4 := c.c4 + 1 } else { c with c0 := c.c0 + 1 }
def noCF : Cnt → List Note → Cnt
  | c, [] => c
  | c, x :: l => noCF (bump c x.kind) l
def noCN (l : List Note) : Cnt := noCF ⟨0, 0, 0, 0, 0⟩ l
def encCnt (c : Cnt) : D := .agg [.int .i64 c.c0, .int .i64 c.c1, .int .i64 c.c2, .int .i64 c.c3, .int .i64 c.c4]
theorem encCnt_eq (c : Cnt) : encCnt c = .agg [.int .i64 c.c0, .int .i64 c.c1, .int .i64 c.c2, .int .i64 c.c3, .int .i64 c.c4] := rfl
def Cle (c : Cnt) (k : Int) : Prop := (0 ≤ c.c0 ∧ c.c0 ≤ k) ∧ (0 ≤ c.c1 ∧ c.c1 ≤ k) ∧ (0 ≤ c.c2 ∧ c.c2 ≤ k) ∧ (0 ≤ c.c3 ∧ c.c3 ≤ k) ∧ (0 ≤ c.c4 ∧ c.c4 ≤ k)
theorem bump_le {c : Cnt} {k : Int} (h : Cle c k) (n : Int) : Cle (bump c n) (k + 1) := by
  unfold Cle at h ⊢
  unfold bump
  split
  · dsimp only; omega
  · split
    · dsimp only; omega
    · split
      · dsimp only; omega
      · split <;> (dsimp only; omega)
theorem bump1 {c : Cnt} {k : Int} (h : k = 1) : bump c k = ⟨c.c0, c.c1 + 1, c.c2, c.c3, c.c4⟩ := by subst h; rfl
theorem bump2 {c : Cnt} {k : Int} (h : k = 2) : bump c k = ⟨c.c0, c.c1, c.c2 + 1, c.c3, c.c4⟩ := by subst h; rfl
theorem bump3 {c : Cnt} {k : Int} (h : k = 3) : bump c k = ⟨c.c0, c.c1, c.c2, c.c3 + 1, c.c4⟩ := by subst h; rfl
theorem bump4 {c : Cnt} {k : Int} (h : k = 4) : bump c k = ⟨c.c0, c.c1, c.c2, c.c3, c.c4 + 1⟩ := by subst h; rfl
theorem bump0 {c : Cnt} {k : Int} (h : k < 1 ∨ 4 < k) : bump c k = ⟨c.c0 + 1, c.c1, c.c2, c.c3, c.c4⟩ := by
  unfold bump; rw [if_neg (by omega), if_neg (by omega), if_neg (by omega), if_neg (by omega)]

/-- The notices of a day, in no order: the loans' and then the holds'. -/
def hldN (h : Hld) : List Note := if h.st = 3 then [⟨3, h.patron, h.got, h.til⟩] else []
def lnsN (l : List Loan) (t a : Int) : List Note := l.flatMap fun n => loanN n t a
def dueL (c : Circ) (a : Int) : List Note := lnsN c.loans c.today a ++ c.holds.flatMap hldN
def dueN (c : Circ) (a : Int) : List Note := stabM (dueL c a)
def lnF (t a : Int) : List Note → List Loan → List Note
  | o, [] => o
  | o, n :: l => lnF t a (o ++ loanN n t a) l
theorem lnF_eq (t a : Int) : ∀ (l : List Loan) (o : List Note), lnF t a o l = o ++ lnsN l t a
  | [], o => by simp [lnF, lnsN]
  | n :: l, o => by rw [lnF, lnF_eq t a l]; simp [lnsN]
def hlF : List Note → List Hld → List Note
  | o, [] => o
  | o, h :: l => hlF (o ++ hldN h) l
theorem hlF_eq : ∀ (l : List Hld) (o : List Note), hlF o l = o ++ l.flatMap hldN
  | [], o => by simp [hlF]
  | h :: l, o => by rw [hlF, hlF_eq l]; simp
theorem lnsN_len (t a : Int) : ∀ l : List Loan, (lnsN l t a).length ≤ 2 * l.length
  | [] => by simp [lnsN]
  | n :: l => by have h1 := lnsN_len t a l; have h2 := loanN_len n t a; simp only [lnsN, List.flatMap_cons, List.length_append, List.length_cons] at h1 ⊢; omega
theorem hldN_len (h : Hld) : (hldN h).length ≤ 1 := by unfold hldN; split <;> simp
theorem hls_len : ∀ l : List Hld, (l.flatMap hldN).length ≤ l.length
  | [] => by simp
  | h :: l => by have h1 := hls_len l; have h2 := hldN_len h; simp only [List.flatMap_cons, List.length_append, List.length_cons]; omega
theorem dueL_len (c : Circ) (a : Int) : (dueL c a).length ≤ 2 * c.loans.length + c.holds.length := by
  have h1 := lnsN_len c.today a c.loans
  have h2 := hls_len c.holds
  simp only [dueL, List.length_append]; omega
/-- The document's way. -/
def lnP (t a : Int) : List Note → List Loan → List Note
  | o, [] => o
  | o, n :: l => lnP t a ((loanN n t a).foldl putN o) l
theorem lnP_eq (t a : Int) : ∀ (l : List Loan) (o : List Note), lnP t a o l = (lnsN l t a).foldl putN o
  | [], o => by simp [lnP, lnsN]
  | n :: l, o => by rw [lnP, lnP_eq t a l]; simp [lnsN, List.foldl_append]
def hlP : List Note → List Hld → List Note
  | o, [] => o
  | o, h :: l => hlP ((hldN h).foldl putN o) l
theorem hlP_eq : ∀ (l : List Hld) (o : List Note), hlP o l = (l.flatMap hldN).foldl putN o
  | [], o => by simp [hlP]
  | h :: l, o => by rw [hlP, hlP_eq l]; simp [List.foldl_append]
theorem dueP_eq (c : Circ) (a : Int) : hlP (lnP c.today a [] c.loans) c.holds = dueN c a := by
  rw [hlP_eq, lnP_eq, ← List.foldl_append, dueN, stab_puts]; rfl
theorem putN_len (l : List Note) (n : Note) : (putN l n).length = l.length + 1 := by
  have : ∀ l : List Note, (puN n l).length = l.length + 1 := by
    intro l
    induction l with
    | nil => rfl
    | cons x l ih => simp only [puN]; split <;> simp [ih]
  simp [putN, this]
theorem puts_len : ∀ (l o : List Note), (l.foldl putN o).length = o.length + l.length
  | [], o => by simp
  | x :: l, o => by rw [List.foldl_cons, puts_len l, putN_len]; simp; omega
/-- Where Put puts: behind the last one that does not come after it. -/
def putK (l : List Note) (n : Note) : Nat → Nat
  | 0 => 0
  | k + 1 => if ltA' l n k = true then putK l n k else k + 1
where ltA' (l : List Note) (n : Note) (k : Nat) : Bool := ltN n (l.getD k zn)
theorem putK_le (l : List Note) (n : Note) (k : Nat) : putK l n k ≤ k := by
  induction k with
  | zero => exact Nat.le_refl _
  | succ k ih => rw [putK]; split <;> omega
theorem putK_eq (n : Note) : ∀ (k : Nat) (l : List Note), k ≤ l.length → puN n (l.take k).reverse = ((l.take k).drop (putK l n k)).reverse ++ n :: (l.take (putK l n k)).reverse := by
  intro k
  induction k with
  | zero => intro l _; simp [puN, putK]
  | succ k ih =>
    intro l hk
    have hx := List.getElem?_eq_getElem (l := l) (i := k) (by omega)
    have e : l.take (k + 1) = l.take k ++ [l[k]'(by omega)] := (List.take_append_getElem (by omega)).symm
    have hd : l.getD k zn = l[k]'(by omega) := by rw [List.getD_eq_getElem?_getD, hx]; rfl
    rw [e, List.reverse_append, List.reverse_singleton, List.singleton_append, puN, putK, putK.ltA', hd]
    by_cases h : ltN n (l[k]'(by omega)) = true
    · rw [if_pos h, if_pos h, ih l (by omega)]
      have hp := putK_le l n k
      rw [List.drop_append_of_le_length (by rw [List.length_take]; omega), List.reverse_append]
      simp
    · rw [if_neg h, if_neg h, ← e]
      have : (l.take (k + 1)).drop (k + 1) = [] := by apply List.drop_eq_nil_of_le; rw [List.length_take]; omega
      rw [this, e, List.reverse_append]; rfl
theorem putN_at (l : List Note) (n : Note) : putN l n = l.take (putK l n l.length) ++ n :: l.drop (putK l n l.length) := by
  have h := putK_eq n l.length l (Nat.le_refl _)
  rw [List.take_length] at h
  rw [putN, h]; simp
end Pl
namespace Pl
open Go Ab
theorem noteL_map (l : List Note) : noteL l = l.map encNote := rfl
theorem ltN_d1 {a b : Note} (h : ¬ a.patron = b.patron) : ltN a b = decide (a.patron < b.patron) := by
  rw [Bool.eq_iff_iff, ltN_iff, decide_eq_true_iff]; omega
theorem ltN_d2 {a b : Note} (h : a.patron = b.patron) (h2 : ¬ a.kind = b.kind) : ltN a b = decide (a.kind < b.kind) := by
  rw [Bool.eq_iff_iff, ltN_iff, decide_eq_true_iff]; omega
theorem ltN_d3 {a b : Note} (h : a.patron = b.patron) (h2 : a.kind = b.kind) : ltN a b = decide (a.item < b.item) := by
  rw [Bool.eq_iff_iff, ltN_iff, decide_eq_true_iff]; omega
theorem putK_go {l : List Note} {n x : Note} {k p : Nat} (hk : k = p + 1) (hx : l[p]? = some x) (h : ltN n x = true) : putK l n k = putK l n p := by
  subst hk; rw [putK, putK.ltA', List.getD_eq_getElem?_getD, hx]; exact if_pos h
theorem putK_no {l : List Note} {n x : Note} {k p : Nat} (hk : k = p + 1) (hx : l[p]? = some x) (h : ltN n x = false) : putK l n k = k := by
  subst hk; rw [putK, putK.ltA', List.getD_eq_getElem?_getD, hx]; exact if_neg (by simp [h])
end Pl
namespace Pl
open Go Ab
theorem loanP (x : Loan) (t a : Int) (o : List Note) : (loanN x t a).foldl putN o =
    (if x.due < t then putN (if x.rcl = true then putN o ⟨4, x.patron, x.item, x.due⟩ else o) ⟨2, x.patron, x.item, x.due⟩
     else if IntKind.i64.wrap (x.due - t) ≤ a then putN (if x.rcl = true then putN o ⟨4, x.patron, x.item, x.due⟩ else o) ⟨1, x.patron, x.item, x.due⟩
     else (if x.rcl = true then putN o ⟨4, x.patron, x.item, x.due⟩ else o)) := by
  unfold loanN
  rw [List.foldl_append]
  by_cases h1 : x.rcl = true
  · rw [if_pos h1, if_pos h1]
    split
    · rfl
    · split <;> rfl
  · rw [if_neg h1, if_neg h1]
    split
    · rfl
    · split <;> rfl
theorem hldP (x : Hld) (o : List Note) : (hldN x).foldl putN o = if x.st = 3 then putN o ⟨3, x.patron, x.got, x.til⟩ else o := by
  unfold hldN; split <;> rfl
theorem noteL_app (a b : List Note) : noteL (a ++ b) = noteL a ++ noteL b := by simp [noteL]
@[simp] theorem noteL_nil : noteL [] = [] := rfl
theorem noteL_one (x : Note) : noteL [x] = [encNote x] := rfl
theorem noteL_cons (x : Note) (l : List Note) : noteL (x :: l) = encNote x :: noteL l := rfl
end Pl
namespace Pl
open Go Ab
theorem loanN_app (x : Loan) (t a : Int) (o : List Note) (l : List Loan) : lnF t a o (x :: l) = lnF t a (o ++ loanN x t a) l := rfl
theorem hldN_y {x : Hld} (h : x.st = 3) : hldN x = [⟨3, x.patron, x.got, x.til⟩] := if_pos h
theorem hldN_n {x : Hld} (h : ¬ x.st = 3) : hldN x = [] := if_neg h
end Pl

/- Numbers as text. -/
namespace Pl
open Go Ab
set_option linter.unusedVariables false
set_option linter.unusedSimpArgs false
theorem dig_eq {x : Int} (h0 : 0 ≤ x) (h1 : x < 10) : Ab.byteOf (D.int IntKind.u8 (IntKind.u8.wrap (IntKind.i64.wrap (48 + x)))) = UInt8.ofNat (48 + x.toNat) := by
  rw [wrap_i64 (by omega) (by omega)]
  have e : IntKind.u8.wrap (48 + x) = 48 + x := by rw [IntKind.wrap_u8]; omega
  rw [e]
  have : (48 + x).toNat = 48 + x.toNat := by omega
  simp [Ab.byteOf, this]
theorem itoa_pos {n : Int} (h : 0 ≤ n) : Go.Lib.itoa n = Go.Lib.decDigits n.toNat := by unfold Go.Lib.itoa; rw [if_neg (by omega)]
theorem itoa_len {n : Int} (h0 : 0 ≤ n) (h1 : n ≤ 9223372036854775807) : (Go.Lib.itoa n).length ≤ 21 := Go.Lib.itoa_length_le n (by omega) h1
theorem dec_step {x : Int} (h : 10 ≤ x) (s : List UInt8) :
    Go.Lib.decDigits (x.tdiv 10).toNat ++ (Ab.byteOf (D.int IntKind.u8 (IntKind.u8.wrap (IntKind.i64.wrap (48 + x.tmod 10)))) :: s) = Go.Lib.decDigits x.toNat ++ s := by
  rw [Int.tmod_eq_emod_of_nonneg (by omega), dig_eq (by omega) (by omega), Int.tdiv_eq_ediv_of_nonneg (by omega)]
  have e1 : (x / 10).toNat = x.toNat / 10 := by omega
  have e2 : (x % 10).toNat = x.toNat % 10 := by omega
  rw [e1, e2]
  conv => rhs; rw [Go.Lib.decDigits, dif_neg (by omega)]
  simp
theorem dec_last {x : Int} (h0 : 0 ≤ x) (h : x < 10) (s : List UInt8) :
    Ab.byteOf (D.int IntKind.u8 (IntKind.u8.wrap (IntKind.i64.wrap (48 + x)))) :: s = Go.Lib.decDigits x.toNat ++ s := by
  rw [dig_eq h0 h, Go.Lib.decDigits, dif_pos (by omega)]; rfl
end Pl

/- Dates: years, months and days. -/
namespace Pl
set_option linter.unusedVariables false
set_option linter.unusedSimpArgs false
def leapB (y : Int) : Bool := decide (y % 4 = 0 ∧ (¬ y % 100 = 0 ∨ y % 400 = 0))
theorem leap_iff {y : Int} (h : 1900 ≤ y) (h2 : y ≤ 2199) : leapB y = true ↔ (y % 4 = 0 ∧ ¬ y = 1900 ∧ ¬ y = 2100) := by
  unfold leapB; rw [decide_eq_true_iff]; omega
/-- the days ahead of a year -/
def nyD (y : Int) : Int := if y ≤ 1900 then 0 else 365 * (y - 1900) + (y - 1) / 4 - 475 - (if y ≤ 2100 then 0 else 1)
def yearD (y : Int) : Int := if leapB y = true then 366 else 365
theorem ny_step {y : Int} (h : 1900 ≤ y) (h2 : y ≤ 2199) : nyD (y + 1) = nyD y + yearD y := by
  unfold nyD yearD
  by_cases hl : leapB y = true
  · have := (leap_iff h h2).1 hl
    rw [if_pos hl]; repeat' split
    all_goals omega
  · have := mt (leap_iff h h2).2 hl
    rw [if_neg hl]; repeat' split
    all_goals omega
theorem year_pos (y : Int) : 365 ≤ yearD y ∧ yearD y ≤ 366 := by unfold yearD; split <;> omega
theorem ny_mono {y z : Int} (h : y ≤ z) : nyD y ≤ nyD z := by unfold nyD; repeat' split <;> omega
theorem ny_first : nyD 1900 = 0 := by decide
theorem ny_end : nyD 2200 = 109573 := by decide
theorem ny_rng {y : Int} (h : 1900 ≤ y) (h2 : y ≤ 2200) : 0 ≤ nyD y ∧ nyD y ≤ 109573 ∧ 365 * (y - 1900) ≤ nyD y ∧ nyD y ≤ 366 * (y - 1900) := by unfold nyD; repeat' split <;> omega
/-- the length of a month -/
def tblD (m : Int) : Int := if m = 2 then 28 else if m = 4 ∨ m = 6 ∨ m = 9 ∨ m = 11 then 30 else 31
def mlenD (y m : Int) : Int := if (y < 1900 ∨ 2199 < y) ∨ (m < 1 ∨ 12 < m) then 0 else if m = 2 ∧ leapB y = true then 29 else tblD m
/-- the days of a year ahead of a month -/
def befT (m : Int) : Int :=
  if m ≤ 1 then 0 else if m = 2 then 31 else if m = 3 then 59 else if m = 4 then 90 else if m = 5 then 120 else if m = 6 then 151 else if m = 7 then 181 else if m = 8 then 212 else if m = 9 then 243
  else if m = 10 then 273 else if m = 11 then 304 else if m = 12 then 334 else 365
def befD (y m : Int) : Int := befT m + (if 2 < m ∧ leapB y = true then 1 else 0)
theorem mlen_ok {y m : Int} (hy : 1900 ≤ y) (hy2 : y ≤ 2199) (hm : 1 ≤ m) (hm2 : m ≤ 12) : mlenD y m = if m = 2 ∧ leapB y = true then 29 else tblD m := if_neg (by omega)
theorem bef_step {y m : Int} (hy : 1900 ≤ y) (hy2 : y ≤ 2199) (hm : 1 ≤ m) (hm2 : m ≤ 12) : befD y (m + 1) = befD y m + mlenD y m := by
  rw [mlen_ok hy hy2 hm hm2]
  have hc : m = 1 ∨ m = 2 ∨ m = 3 ∨ m = 4 ∨ m = 5 ∨ m = 6 ∨ m = 7 ∨ m = 8 ∨ m = 9 ∨ m = 10 ∨ m = 11 ∨ m = 12 := by omega
  unfold befD
  cases leapB y <;> rcases hc with rfl | rfl | rfl | rfl | rfl | rfl | rfl | rfl | rfl | rfl | rfl | rfl <;> decide
theorem bef_first (y : Int) : befD y 1 = 0 := by simp [befD, befT]
theorem bef_end {y : Int} (hy : 1900 ≤ y) (hy2 : y ≤ 2199) : befD y 13 = yearD y := by
  unfold befD yearD; cases leapB y <;> decide
theorem befT_mono {m n : Int} (hn : n ≤ 13) (h1 : 1 ≤ m) (h : m ≤ n) : befT m ≤ befT n := by
  have hc : m = 1 ∨ m = 2 ∨ m = 3 ∨ m = 4 ∨ m = 5 ∨ m = 6 ∨ m = 7 ∨ m = 8 ∨ m = 9 ∨ m = 10 ∨ m = 11 ∨ m = 12 ∨ m = 13 := by omega
  have hd : n = 1 ∨ n = 2 ∨ n = 3 ∨ n = 4 ∨ n = 5 ∨ n = 6 ∨ n = 7 ∨ n = 8 ∨ n = 9 ∨ n = 10 ∨ n = 11 ∨ n = 12 ∨ n = 13 := by omega
  have key : ∀ i : Fin 13, ∀ j : Fin 13, i ≤ j → befT ((i.val : Int) + 1) ≤ befT ((j.val : Int) + 1) := by decide
  have := key ⟨(m - 1).toNat, by omega⟩ ⟨(n - 1).toNat, by omega⟩ (by rw [Fin.le_def]; simp only; omega)
  simp only at this
  rwa [show (((m - 1).toNat : Nat) : Int) + 1 = m by omega, show (((n - 1).toNat : Nat) : Int) + 1 = n by omega] at this
theorem bef_mono {y m n : Int} (hn : n ≤ 13) (h1 : 1 ≤ m) (h : m ≤ n) : befD y m ≤ befD y n := by
  have := befT_mono hn h1 h
  unfold befD
  cases leapB y
  · simpa using this
  · simp only [and_true]
    split <;> split <;> omega
theorem mlen_rng {y m : Int} (hy : 1900 ≤ y) (hy2 : y ≤ 2199) (hm : 1 ≤ m) (hm2 : m ≤ 12) : 28 ≤ mlenD y m ∧ mlenD y m ≤ 31 := by
  rw [mlen_ok hy hy2 hm hm2]; unfold tblD; repeat' split <;> omega
theorem mlen_in {y m d : Int} (h1 : 1 ≤ d) (h2 : d ≤ mlenD y m) : (1900 ≤ y ∧ y ≤ 2199) ∧ 1 ≤ m ∧ m ≤ 12 := by
  unfold mlenD at h2; split at h2 <;> omega
/-- the day of a date -/
def dayD (y m d : Int) : Int := nyD y + befD y m + d - 1
def ofR (y m d : Int) : Int × Int := if d < 1 ∨ mlenD y m < d then (0, 2) else (dayD y m d, 0)
theorem of_bad {y m d : Int} (h : d < 1 ∨ mlenD y m < d) : ofR y m d = (0, 2) := if_pos h
theorem of_ok {y m d : Int} (h1 : 1 ≤ d) (h2 : d ≤ mlenD y m) : ofR y m d = (dayD y m d, 0) := if_neg (by omega)
structure Parts where
  y : Int
  m : Int
  d : Int
def IsParts (day : Int) (p : Parts) : Prop := 1 ≤ p.d ∧ p.d ≤ mlenD p.y p.m ∧ dayD p.y p.m p.d = day
theorem parts_in {day : Int} {p : Parts} (h : IsParts day p) : (1900 ≤ p.y ∧ p.y ≤ 2199) ∧ (1 ≤ p.m ∧ p.m ≤ 12) ∧ (nyD p.y ≤ day ∧ day < nyD (p.y + 1)) ∧ (befD p.y p.m ≤ day - nyD p.y ∧ day - nyD p.y < befD p.y (p.m + 1)) ∧ (1 ≤ p.d ∧ p.d ≤ 31) ∧ 0 ≤ day ∧ day ≤ 109572 := by
  obtain ⟨h1, h2, h3⟩ := h
  obtain ⟨⟨a1, a2⟩, a3, a4⟩ := mlen_in h1 h2
  have b1 := bef_step a1 a2 a3 a4
  have b2 := bef_mono (y := p.y) (m := p.m + 1) (n := 13) (by omega) (by omega) (by omega)
  have b3 := bef_mono (y := p.y) (m := 1) (n := p.m) (by omega) (by omega) (by omega)
  rw [bef_end a1 a2] at b2
  rw [bef_first] at b3
  have b4 := ny_step a1 a2
  have b5 := ny_rng a1 (by omega)
  have b6 := ny_rng (y := p.y + 1) (by omega) (by omega)
  have b7 := mlen_rng a1 a2 a3 a4
  unfold dayD at h3
  omega
theorem parts_uniq {day : Int} {p q : Parts} (hp : IsParts day p) (hq : IsParts day q) : p = q := by
  have a := parts_in hp
  have b := parts_in hq
  have hy : p.y = q.y := by
    have c1 := fun h : p.y + 1 ≤ q.y => ny_mono h
    have c2 := fun h : q.y + 1 ≤ p.y => ny_mono h
    omega
  have hm : p.m = q.m := by
    rw [hy] at a
    have c1 := fun h : p.m + 1 ≤ q.m => bef_mono (y := q.y) (m := p.m + 1) (n := q.m) (by omega) (by omega) h
    have c2 := fun h : q.m + 1 ≤ p.m => bef_mono (y := q.y) (m := q.m + 1) (n := p.m) (by omega) (by omega) h
    omega
  have hd : p.d = q.d := by
    have e1 := hp.2.2
    have e2 := hq.2.2
    unfold dayD at e1 e2
    rw [hy, hm] at e1
    omega
  cases p; cases q; simp_all
open Classical in
noncomputable def partsP (day : Int) : Parts := if h : ∃ p, IsParts day p then h.choose else ⟨0, 0, 0⟩
theorem parts_eq {day : Int} {p : Parts} (h : IsParts day p) : partsP day = p := by
  have he : ∃ p, IsParts day p := ⟨p, h⟩
  unfold partsP
  rw [dif_pos he]
  exact parts_uniq he.choose_spec h
theorem parts_mk {day y m : Int} (hy : 1900 ≤ y) (hy2 : y ≤ 2199) (hm : 1 ≤ m) (hm2 : m ≤ 12) (h1 : befD y m ≤ day - nyD y) (h2 : day - nyD y < befD y (m + 1)) : IsParts day ⟨y, m, day - nyD y - befD y m + 1⟩ := by
  have := bef_step hy hy2 hm hm2
  refine ⟨?_, ?_, ?_⟩ <;> simp only [dayD] <;> omega
end Pl

/- Dates: from day to day, and months on. -/
namespace Pl
set_option linter.unusedVariables false
set_option linter.unusedSimpArgs false
def nextP (p : Parts) : Parts := if p.d < mlenD p.y p.m then ⟨p.y, p.m, p.d + 1⟩ else if p.m < 12 then ⟨p.y, p.m + 1, 1⟩ else ⟨p.y + 1, 1, 1⟩
theorem next_is {day : Int} {p : Parts} (h : IsParts day p) (hd : day < 109572) : IsParts (day + 1) (nextP p) := by
  obtain ⟨⟨a1, a2⟩, ⟨a3, a4⟩, ⟨a5, a6⟩, ⟨a7, a8⟩, ⟨a9, a10⟩, a11, a12⟩ := parts_in h
  obtain ⟨h1, h2, h3⟩ := h
  have b1 := bef_step a1 a2 a3 a4
  have b2 := ny_step a1 a2
  have b3 := bef_end a1 a2
  unfold dayD at h3
  unfold nextP
  by_cases c1 : p.d < mlenD p.y p.m
  · rw [if_pos c1]
    refine ⟨?_, ?_, ?_⟩ <;> simp only [dayD] <;> omega
  · rw [if_neg c1]
    by_cases c2 : p.m < 12
    · rw [if_pos c2]
      have b4 := mlen_rng a1 a2 (m := p.m + 1) (by omega) (by omega)
      refine ⟨?_, ?_, ?_⟩ <;> simp only [dayD] <;> omega
    · rw [if_neg c2]
      have e12 : p.m = 12 := by omega
      rw [e12] at b1
      rw [show (12 : Int) + 1 = 13 from rfl, b3] at b1
      rw [e12] at h3 h2 c1
      have hy : p.y ≤ 2198 := by
        apply Classical.byContradiction
        intro hn
        have : p.y = 2199 := by omega
        rw [this] at b2 b1 h3 c1 h2
        rw [show (2199 : Int) + 1 = 2200 from rfl, ny_end] at b2
        omega
      have b4 := mlen_rng (y := p.y + 1) (m := 1) (by omega) (by omega) (by omega) (by omega)
      refine ⟨?_, ?_, ?_⟩ <;> simp only [dayD, bef_first] <;> omega
theorem is_first : IsParts 0 ⟨1900, 1, 1⟩ := ⟨by decide, by decide, by decide⟩
theorem has_parts : ∀ n : Nat, n ≤ 109572 → ∃ p, IsParts (n : Int) p
  | 0, _ => ⟨_, is_first⟩
  | n + 1, h => by
    obtain ⟨p, hp⟩ := has_parts n (by omega)
    refine ⟨nextP p, ?_⟩
    have := next_is hp (by omega)
    rwa [show ((n + 1 : Nat) : Int) = (n : Int) + 1 by omega]
theorem parts_is {day : Int} (h0 : 0 ≤ day) (h1 : day ≤ 109572) : IsParts day (partsP day) := by
  obtain ⟨p, hp⟩ := has_parts day.toNat (by omega)
  rw [show (day.toNat : Int) = day by omega] at hp
  rw [parts_eq hp]
  exact hp
theorem parts_next {day : Int} (h0 : 0 ≤ day) (h1 : day < 109572) : partsP (day + 1) = nextP (partsP day) := parts_eq (next_is (parts_is h0 (by omega)) h1)
theorem parts_of {y m d : Int} (h1 : 1 ≤ d) (h2 : d ≤ mlenD y m) : partsP (dayD y m d) = ⟨y, m, d⟩ := parts_eq ⟨h1, h2, rfl⟩
def knownB (day : Int) : Bool := decide (0 ≤ day ∧ day ≤ 109572)
/-- some months on -/
noncomputable def monK (day n : Int) : Int := 12 * (partsP day).y + (partsP day).m - 1 + n
noncomputable def monthsR (day n : Int) : Int × Int :=
  if ¬ (0 ≤ day ∧ day ≤ 109572) ∨ (n < -3600 ∨ 3600 < n) then (0, 2)
  else if monK day n < 22800 ∨ 26399 < monK day n then (0, 2)
  else (dayD (monK day n / 12) (monK day n % 12 + 1) (min (partsP day).d (mlenD (monK day n / 12) (monK day n % 12 + 1))), 0)
theorem mon_in {day n : Int} (h : 0 ≤ day ∧ day ≤ 109572) (h2 : ¬ (monK day n < 22800 ∨ 26399 < monK day n)) :
    1 ≤ min (partsP day).d (mlenD (monK day n / 12) (monK day n % 12 + 1)) ∧ min (partsP day).d (mlenD (monK day n / 12) (monK day n % 12 + 1)) ≤ mlenD (monK day n / 12) (monK day n % 12 + 1) := by
  have a := parts_in (parts_is h.1 h.2)
  have b := mlen_rng (y := monK day n / 12) (m := monK day n % 12 + 1) (by omega) (by omega) (by omega) (by omega)
  omega
theorem months_a {day n : Int} (h : ¬ (0 ≤ day ∧ day ≤ 109572) ∨ (n < -3600 ∨ 3600 < n)) : monthsR day n = (0, 2) := if_pos h
theorem months_b {day n : Int} (h : (0 ≤ day ∧ day ≤ 109572) ∧ -3600 ≤ n ∧ n ≤ 3600) (h2 : monK day n < 22800 ∨ 26399 < monK day n) : monthsR day n = (0, 2) := by
  unfold monthsR; rw [if_neg (by omega), if_pos h2]
theorem months_c {day n : Int} (h : (0 ≤ day ∧ day ≤ 109572) ∧ -3600 ≤ n ∧ n ≤ 3600) (h2 : ¬ (monK day n < 22800 ∨ 26399 < monK day n)) :
    monthsR day n = ofR (monK day n / 12) (monK day n % 12 + 1) (min (partsP day).d (mlenD (monK day n / 12) (monK day n % 12 + 1))) := by
  have a := mon_in h.1 h2
  rw [of_ok a.1 a.2]
  unfold monthsR; rw [if_neg (by omega), if_neg h2]
theorem months_zero {day : Int} (h : 0 ≤ day ∧ day ≤ 109572) : monthsR day 0 = (day, 0) := by
  have a := parts_is h.1 h.2
  have b := parts_in a
  have hk : monK day 0 = 12 * (partsP day).y + (partsP day).m - 1 := by unfold monK; omega
  have e1 : monK day 0 / 12 = (partsP day).y := by omega
  have e2 : monK day 0 % 12 + 1 = (partsP day).m := by omega
  have c := months_c (n := 0) ⟨h, by omega, by omega⟩ (by omega)
  rw [e1, e2] at c
  have hm : min (partsP day).d (mlenD (partsP day).y (partsP day).m) = (partsP day).d := Int.min_eq_left a.2.1
  rw [c, hm, of_ok a.1 a.2.1, a.2.2]
theorem months_parts {day n : Int} (h : (0 ≤ day ∧ day ≤ 109572) ∧ -3600 ≤ n ∧ n ≤ 3600) (h2 : ¬ (monK day n < 22800 ∨ 26399 < monK day n)) :
    (monthsR day n).2 = 0 ∧ IsParts (monthsR day n).1 ⟨monK day n / 12, monK day n % 12 + 1, min (partsP day).d (mlenD (monK day n / 12) (monK day n % 12 + 1))⟩ := by
  have a := mon_in h.1 h2
  rw [months_c h h2, of_ok a.1 a.2]
  exact ⟨rfl, a.1, a.2, rfl⟩
end Pl

/- Dates as text. -/
namespace Pl
open Go Ab
set_option linter.unusedVariables false
set_option linter.unusedSimpArgs false
def digC (n : Int) : UInt8 := UInt8.ofNat (48 + (n % 10).toNat)
theorem digC_val (n : Int) : (digC n).toNat = 48 + (n % 10).toNat := by
  have : (n % 10).toNat < 10 := by omega
  simp [digC, UInt8.toNat_ofNat]; omega
/-- the last digits of a number -/
def digD (n : Int) : Nat → List UInt8
  | 0 => []
  | w + 1 => digD (n / 10) w ++ [digC n]
theorem digD_len : ∀ (w : Nat) (n : Int), (digD n w).length = w
  | 0, _ => rfl
  | w + 1, n => by simp [digD, digD_len w]
theorem digD_zero : ∀ w : Nat, digD 0 w = List.replicate w 48
  | 0 => rfl
  | w + 1 => by
    rw [digD, show (0 : Int) / 10 = 0 from rfl, digD_zero w, show digC 0 = 48 from rfl, ← List.replicate_succ']
theorem itoa_small {n : Int} (h0 : 0 ≤ n) (h : n < 10) : Go.Lib.itoa n = [digC n] := by
  rw [itoa_pos h0, Go.Lib.decDigits, dif_pos (by omega)]
  have : (n % 10).toNat = n.toNat := by omega
  simp [digC, this]
theorem itoa_big {n : Int} (h : 10 ≤ n) : Go.Lib.itoa n = Go.Lib.itoa (n / 10) ++ [digC n] := by
  rw [itoa_pos (by omega), itoa_pos (n := n / 10) (by omega), Go.Lib.decDigits, dif_neg (by omega)]
  have e1 : (n / 10).toNat = n.toNat / 10 := by omega
  have e2 : (n % 10).toNat = n.toNat % 10 := by omega
  rw [e1, digC, e2]
theorem pad_eq : ∀ (w : Nat) (n : Int), 0 ≤ n → n < 10 ^ (w + 1) → (Go.Lib.itoa n).length ≤ w + 1 ∧ List.replicate (w + 1 - (Go.Lib.itoa n).length) 48 ++ Go.Lib.itoa n = digD n (w + 1)
  | 0, n, h0, h => by
    rw [itoa_small h0 (by simpa using h)]
    simp [digD]
  | w + 1, n, h0, h => by
    by_cases hn : n < 10
    · rw [itoa_small h0 hn]
      refine ⟨by simp, ?_⟩
      rw [digD, show n / 10 = 0 by omega, digD_zero]
      simp
    · have h' : n / 10 < 10 ^ (w + 1) := by
        rw [Int.pow_succ] at h
        omega
      obtain ⟨a, b⟩ := pad_eq w (n / 10) (by omega) h'
      rw [itoa_big (by omega)]
      refine ⟨by simp; omega, ?_⟩
      rw [digD, ← b, List.length_append, List.length_singleton, show w + 1 + 1 - ((Go.Lib.itoa (n / 10)).length + 1) = w + 1 - (Go.Lib.itoa (n / 10)).length by omega, List.append_assoc]
def isDig (b : UInt8) : Bool := decide (48 ≤ b.toNat ∧ b.toNat ≤ 57)
def valF : Int → List UInt8 → Int
  | a, [] => a
  | a, b :: l => valF (10 * a + ((b.toNat : Int) - 48)) l
theorem valF_app : ∀ (l : List UInt8) (a : Int) (b : UInt8), valF a (l ++ [b]) = 10 * valF a l + ((b.toNat : Int) - 48)
  | [], a, b => rfl
  | x :: l, a, b => by simp only [List.cons_append, valF]; exact valF_app l _ b
theorem digC_dig (n : Int) : isDig (digC n) = true := by
  unfold isDig; rw [digC_val, decide_eq_true_iff]; omega
theorem digD_dig : ∀ (w : Nat) (n : Int), (digD n w).all isDig = true
  | 0, _ => rfl
  | w + 1, n => by simp [digD, digD_dig w, digC_dig, -List.all_eq_true]
theorem digD_val : ∀ (w : Nat) (n : Int), 0 ≤ n → n < 10 ^ w → valF 0 (digD n w) = n
  | 0, n, h0, h => by simp [digD, valF] at *; omega
  | w + 1, n, h0, h => by
    have h' : n / 10 < 10 ^ w := by
      rw [Int.pow_succ] at h
      omega
    rw [digD, valF_app, digD_val w (n / 10) (by omega) h', digC_val]
    omega
theorem dec_val : ∀ (l : List UInt8) (a : Nat), l.all isDig = true → ∃ n : Nat, Go.Lib.decFrom a l = some n ∧ (n : Int) = valF a l
  | [], a, _ => ⟨a, rfl, rfl⟩
  | b :: l, a, h => by
    simp only [List.all_cons, Bool.and_eq_true] at h
    have hb : 48 ≤ b.toNat ∧ b.toNat ≤ 57 := by simpa [isDig] using h.1
    obtain ⟨n, h1, h2⟩ := dec_val l (a * 10 + (b.toNat - 48)) h.2
    refine ⟨n, ?_, ?_⟩
    · simp only [Go.Lib.decFrom, Go.Lib.digitVal, if_pos hb]
      exact h1
    · rw [h2]
      simp only [valF]
      congr 1
      omega
theorem atoi_val {l : List UInt8} (hn : l ≠ []) (h : l.all isDig = true) : Go.Lib.atoi l = some (valF 0 l) := by
  match l, hn with
  | b :: r, _ =>
    have hb : 48 ≤ b.toNat ∧ b.toNat ≤ 57 := by
      simp only [List.all_cons, Bool.and_eq_true] at h
      simpa [isDig] using h.1
    have n1 : (b == 45) = false := by
      rw [beq_eq_false_iff_ne]; intro hh; rw [hh] at hb; exact absurd hb (by decide)
    have n2 : (b == 43) = false := by
      rw [beq_eq_false_iff_ne]; intro hh; rw [hh] at hb; exact absurd hb (by decide)
    obtain ⟨n, h1, h2⟩ := dec_val (b :: r) 0 h
    simp only [Go.Lib.atoi, n1, n2, Go.Lib.decNat, List.isEmpty_cons]
    simp only [Bool.false_eq_true, if_false]
    rw [h1]
    simp [h2]
/-- a text's number -/
def numR (s : List UInt8) : Int × Bool := if s.all isDig = true then (valF 0 s, true) else (0, false)
theorem num_ok {s : List UInt8} (h : s.all isDig = true) : numR s = (valF 0 s, true) := if_pos h
theorem num_bad {s : List UInt8} (h : ¬ s.all isDig = true) : numR s = (0, false) := if_neg h
/-- a date's text -/
noncomputable def formatR (day : Int) : List UInt8 :=
  if 0 ≤ day ∧ day ≤ 109572 then digD (partsP day).y 4 ++ [45] ++ digD (partsP day).m 2 ++ [45] ++ digD (partsP day).d 2 else []
def formB (s : List UInt8) : Prop := s.length = 10 ∧ s[4]? = some 45 ∧ s[7]? = some 45 ∧ (s.take 4).all isDig = true ∧ ((s.drop 5).take 2).all isDig = true ∧ (s.drop 8).all isDig = true
instance (s : List UInt8) : Decidable (formB s) := by unfold formB; infer_instance
def parseR (s : List UInt8) : Int × Int := if formB s then ofR (valF 0 (s.take 4)) (valF 0 ((s.drop 5).take 2)) (valF 0 (s.drop 8)) else (0, 3)
theorem parse_text {y m d : Int} (hy : 0 ≤ y ∧ y < 10000) (hm : 0 ≤ m ∧ m < 100) (hd : 0 ≤ d ∧ d < 100) : parseR (digD y 4 ++ [45] ++ digD m 2 ++ [45] ++ digD d 2) = ofR y m d := by
  have vy := digD_val 4 y hy.1 (by simpa using hy.2)
  have vm := digD_val 2 m hm.1 (by simpa using hm.2)
  have vd := digD_val 2 d hd.1 (by simpa using hd.2)
  have gy := digD_dig 4 y
  have gm := digD_dig 2 m
  have gd := digD_dig 2 d
  have ly := digD_len 4 y
  have lm := digD_len 2 m
  have ld := digD_len 2 d
  generalize digD y 4 = a at *
  generalize digD m 2 = b at *
  generalize digD d 2 = c at *
  match a, ly, b, lm, c, ld with
  | [a1, a2, a3, a4], _, [b1, b2], _, [c1, c2], _ =>
    unfold parseR
    rw [if_pos]
    · simp only [List.cons_append, List.nil_append, List.append_assoc, List.take_succ_cons, List.take_zero, List.drop_succ_cons, List.drop_zero]
      rw [vy, vm, vd]
    · refine ⟨by simp, by simp, by simp, ?_, ?_, ?_⟩
      · simpa using gy
      · simpa using gm
      · simpa using gd
theorem parse_format {day : Int} (h : 0 ≤ day ∧ day ≤ 109572) : parseR (formatR day) = (day, 0) := by
  have a := parts_is h.1 h.2
  have b := parts_in a
  unfold formatR
  rw [if_pos h, parse_text (by omega) (by omega) (by omega), of_ok a.1 a.2.1, a.2.2]
end Pl

/- Dates: what the laws ask. -/
namespace Pl
set_option linter.unusedVariables false
set_option linter.unusedSimpArgs false
theorem later_ok {day : Int} (h0 : 0 ≤ day) (h1 : day < 109572) :
    ((partsP (day + 1)).y = (partsP day).y ∧ (partsP (day + 1)).m = (partsP day).m ∧ (partsP (day + 1)).d = (partsP day).d + 1) ∨
    ((partsP (day + 1)).y = (partsP day).y ∧ (partsP (day + 1)).m = (partsP day).m + 1 ∧ (partsP (day + 1)).d = 1 ∧ (partsP day).d = mlenD (partsP day).y (partsP day).m) ∨
    ((partsP (day + 1)).y = (partsP day).y + 1 ∧ (partsP (day + 1)).m = 1 ∧ (partsP (day + 1)).d = 1 ∧ (partsP day).m = 12 ∧ (partsP day).d = 31) := by
  have a := parts_is h0 (by omega)
  have b := parts_in a
  obtain ⟨c1, c2, c3⟩ := a
  rw [parts_next h0 h1]
  generalize partsP day = p at *
  unfold nextP
  split
  · exact .inl ⟨rfl, rfl, rfl⟩
  · split
    · exact .inr (.inl ⟨rfl, rfl, rfl, by omega⟩)
    · have e : p.m = 12 := by omega
      refine .inr (.inr ⟨rfl, rfl, rfl, e, ?_⟩)
      have : mlenD p.y p.m = 31 := by
        rw [mlen_ok b.1.1 b.1.2 b.2.1.1 b.2.1.2, e]
        simp [tblD]
      omega
theorem steps_ok {day n : Int} (h : (0 ≤ day ∧ day ≤ 109572) ∧ -3600 ≤ n ∧ n ≤ 3600) (h2 : ¬ (monK day n < 22800 ∨ 26399 < monK day n)) :
    (monthsR day n).2 = 0 ∧ (0 ≤ (monthsR day n).1 ∧ (monthsR day n).1 ≤ 109572) ∧ 12 * (partsP (monthsR day n).1).y + (partsP (monthsR day n).1).m - 1 = monK day n ∧
    ((partsP (monthsR day n).1).d = (partsP day).d ∨ ((partsP (monthsR day n).1).d < (partsP day).d ∧ (partsP (monthsR day n).1).d = mlenD (partsP (monthsR day n).1).y (partsP (monthsR day n).1).m)) := by
  obtain ⟨a1, a2⟩ := months_parts h h2
  have b := parts_in a2
  rw [parts_eq a2]
  simp only at b ⊢
  refine ⟨a1, ⟨b.2.2.2.2.2.1, b.2.2.2.2.2.2⟩, by omega, by omega⟩
end Pl

/- Dates: the tables of months as the walks read them. -/
namespace Pl
open Go Ab
set_option linter.unusedVariables false
set_option linter.unusedSimpArgs false
theorem month_cases {m : Int} (h : 1 ≤ m ∧ m ≤ 12) : m = 1 ∨ m = 2 ∨ m = 3 ∨ m = 4 ∨ m = 5 ∨ m = 6 ∨ m = 7 ∨ m = 8 ∨ m = 9 ∨ m = 10 ∨ m = 11 ∨ m = 12 := by omega
theorem tbl_row {m : Int} (h : 1 ≤ m ∧ m ≤ 12) : (([D.int IntKind.i64 31, D.int IntKind.i64 28, D.int IntKind.i64 31, D.int IntKind.i64 30, D.int IntKind.i64 31, D.int IntKind.i64 30, D.int IntKind.i64 31, D.int IntKind.i64 31, D.int IntKind.i64 30, D.int IntKind.i64 31, D.int IntKind.i64 30, D.int IntKind.i64 31][m.toNat - 1]?.getD (D.int IntKind.i64 0)).cells[0]?.getD (D.int IntKind.i64 0)) = D.int IntKind.i64 (tblD m) := by
  rcases month_cases h with rfl | rfl | rfl | rfl | rfl | rfl | rfl | rfl | rfl | rfl | rfl | rfl <;> rfl
theorem tbl_arr {m : Int} (h : 1 ≤ m ∧ m ≤ 12) : ([D.int IntKind.i64 31, D.int IntKind.i64 28, D.int IntKind.i64 31, D.int IntKind.i64 30, D.int IntKind.i64 31, D.int IntKind.i64 30, D.int IntKind.i64 31, D.int IntKind.i64 31, D.int IntKind.i64 30, D.int IntKind.i64 31, D.int IntKind.i64 30, D.int IntKind.i64 31][m.toNat - 1]?.getD (D.int IntKind.i64 0)) = D.int IntKind.i64 (tblD m) := by
  rcases month_cases h with rfl | rfl | rfl | rfl | rfl | rfl | rfl | rfl | rfl | rfl | rfl | rfl <;> rfl
theorem bef_arr {m : Int} (h : 1 ≤ m ∧ m ≤ 12) : ([D.int IntKind.i64 0, D.int IntKind.i64 31, D.int IntKind.i64 59, D.int IntKind.i64 90, D.int IntKind.i64 120, D.int IntKind.i64 151, D.int IntKind.i64 181, D.int IntKind.i64 212, D.int IntKind.i64 243, D.int IntKind.i64 273, D.int IntKind.i64 304, D.int IntKind.i64 334][m.toNat - 1]?.getD (D.int IntKind.i64 0)) = D.int IntKind.i64 (befT m) := by
  rcases month_cases h with rfl | rfl | rfl | rfl | rfl | rfl | rfl | rfl | rfl | rfl | rfl | rfl <;> rfl
theorem befT_rng (m : Int) : 0 ≤ befT m ∧ befT m ≤ 365 := by unfold befT; repeat' split <;> omega
theorem mlen_out {y m : Int} (h : (y < 1900 ∨ 2199 < y) ∨ (m < 1 ∨ 12 < m)) : mlenD y m = 0 := if_pos h
theorem mlen_29 {y m : Int} (hy : 1900 ≤ y) (hy2 : y ≤ 2199) (h : m = 2) (hl : leapB y = true) : mlenD y m = 29 := by subst h; rw [mlen_ok hy hy2 (by omega) (by omega), if_pos ⟨rfl, hl⟩]
theorem mlen_tbl {y m : Int} (hy : 1900 ≤ y) (hy2 : y ≤ 2199) (hm : 1 ≤ m) (hm2 : m ≤ 12) (h : ¬ (m = 2 ∧ leapB y = true)) : mlenD y m = tblD m := by rw [mlen_ok hy hy2 hm hm2, if_neg h]
/-- the parts of a day, or the error -/
noncomputable def partsR (day : Int) : Int × Int × Int × Int := if 0 ≤ day ∧ day ≤ 109572 then ((partsP day).y, (partsP day).m, (partsP day).d, 0) else (0, 0, 0, 2)
theorem partsR_ok {day : Int} (h : 0 ≤ day ∧ day ≤ 109572) : partsR day = ((partsP day).y, (partsP day).m, (partsP day).d, 0) := if_pos h
theorem partsR_bad {day : Int} (h : ¬ (0 ≤ day ∧ day ≤ 109572)) : partsR day = (0, 0, 0, 2) := if_neg h
theorem partsR_known {day : Int} (h : (partsR day).2.2.2 = 0) : 0 ≤ day ∧ day ≤ 109572 := by
  apply Classical.byContradiction
  intro hh
  rw [partsR_bad hh] at h
  exact absurd h (by decide)
theorem partsR_unknown {day : Int} (h : ¬ (partsR day).2.2.2 = 0) : ¬ (0 ≤ day ∧ day ≤ 109572) := fun hh => by
  rw [partsR_ok hh] at h
  exact h rfl
theorem repeat_eq : ∀ c : Nat, Go.Lib.repeatL [48] c = List.replicate c 48
  | 0 => rfl
  | c + 1 => by simp [Go.Lib.repeatL, repeat_eq c, List.replicate_succ]
theorem pad_rep (w : Nat) (n : Int) (h0 : 0 ≤ n) (h1 : n < 10 ^ (w + 1)) : (Go.Lib.itoa n).length ≤ w + 1 ∧ Go.Lib.repeatL [48] (w + 1 - (Go.Lib.itoa n).length) ++ Go.Lib.itoa n = digD n (w + 1) := by
  rw [repeat_eq]
  exact pad_eq w n h0 h1
theorem format_bad {day : Int} (h : ¬ (0 ≤ day ∧ day ≤ 109572)) : formatR day = [] := if_neg h
theorem format_ok {day : Int} (h : 0 ≤ day ∧ day ≤ 109572) : formatR day = digD (partsP day).y 4 ++ [45] ++ digD (partsP day).m 2 ++ [45] ++ digD (partsP day).d 2 := if_pos h
theorem map_byte : ∀ l : List UInt8, l.map (fun x => Ab.byteOf (D.int IntKind.u8 (x.toNat : Int))) = l
  | [] => rfl
  | x :: l => by rw [List.map_cons, map_byte l]; simp [Ab.byteOf]
theorem digC_int {x : Int} (h : 0 ≤ x) : IntKind.u8.wrap (IntKind.i64.wrap (48 + x.tmod 10)) = ((digC x).toNat : Int) := by
  rw [Int.tmod_eq_emod_of_nonneg h, wrap_i64 (by omega) (by omega), digC_val]
  have : IntKind.u8.wrap (48 + x % 10) = 48 + x % 10 := by rw [IntKind.wrap_u8]; omega
  omega
def digitsF : Unit → List UInt8 → Bool
  | _, [] => true
  | _, b :: l => if isDig b = true then digitsF () l else false
theorem digits_eq : ∀ l : List UInt8, digitsF () l = l.all isDig
  | [] => rfl
  | b :: l => by
    rw [digitsF, List.all_cons, digits_eq l]
    cases isDig b <;> simp
end Pl

/- Dates: reading a text. -/
namespace Pl
set_option linter.unusedVariables false
theorem num_snd (s : List UInt8) : (numR s).2 = true ↔ s.all isDig = true := by
  unfold numR; split <;> simp_all
theorem num_fst {s : List UInt8} (h : (numR s).2 = true) : (numR s).1 = valF 0 s := by rw [num_ok ((num_snd s).1 h)]
theorem at_some {s : List UInt8} {i : Nat} (hi : i < s.length) (h : (s[i]?.getD 0).toNat = 45) : s[i]? = some 45 := by
  rw [List.getElem?_eq_getElem hi] at h ⊢
  simp only [Option.getD_some] at h
  have : s[i] = 45 := UInt8.toNat_inj.1 h
  rw [this]
theorem at_none {s : List UInt8} {i : Nat} (h : ¬ (s[i]?.getD 0).toNat = 45) : ¬ s[i]? = some 45 := fun hh => h (by rw [hh]; rfl)
theorem parse_bad {s : List UInt8} (h : ¬ formB s) : parseR s = (0, 3) := if_neg h
theorem parse_good {s : List UInt8} (h : s.length = 10) (h4 : (s[4]?.getD 0).toNat = 45) (h7 : (s[7]?.getD 0).toNat = 45) (a : (numR (List.take 4 s)).2 = true) (b : (numR (List.drop 5 (List.take 7 s))).2 = true) (c : (numR (List.drop 8 s)).2 = true) :
    parseR s = ofR (numR (List.take 4 s)).1 (numR (List.drop 5 (List.take 7 s))).1 (numR (List.drop 8 s)).1 := by
  have e : List.drop 5 (List.take 7 s) = (s.drop 5).take 2 := by rw [List.drop_take]
  rw [num_fst a, num_fst b, num_fst c]
  rw [e] at b ⊢
  exact if_pos ⟨h, at_some (by omega) h4, at_some (by omega) h7, (num_snd _).1 a, (num_snd _).1 b, (num_snd _).1 c⟩
theorem parse_nonum {s : List UInt8} (h : ¬ (((numR (List.take 4 s)).2 = true ∧ (numR (List.drop 5 (List.take 7 s))).2 = true) ∧ (numR (List.drop 8 s)).2 = true)) : parseR s = (0, 3) := by
  refine parse_bad fun hh => h ?_
  have e : List.drop 5 (List.take 7 s) = (s.drop 5).take 2 := by rw [List.drop_take]
  rw [e]
  exact ⟨⟨(num_snd _).2 hh.2.2.2.1, (num_snd _).2 hh.2.2.2.2.1⟩, (num_snd _).2 hh.2.2.2.2.2⟩
theorem parse_nodash {s : List UInt8} (h : ¬ (s.length = 10 ∧ (s[4]?.getD 0).toNat = 45 ∧ (s[7]?.getD 0).toNat = 45)) : parseR s = (0, 3) := by
  refine parse_bad fun hh => h ⟨hh.1, ?_, ?_⟩
  · rw [hh.2.1]; rfl
  · rw [hh.2.2.1]; rfl
theorem take_ne {s : List UInt8} (h : s.length = 10) : List.take 4 s ≠ [] ∧ List.drop 5 (List.take 7 s) ≠ [] ∧ List.drop 8 s ≠ [] := by
  have key : ∀ l : List UInt8, 0 < l.length → l ≠ [] := fun l hl hh => by rw [hh] at hl; exact absurd hl (by decide)
  exact ⟨key _ (by rw [List.length_take]; omega), key _ (by rw [List.length_drop, List.length_take]; omega), key _ (by rw [List.length_drop]; omega)⟩
end Pl

/- Dates: the document's reading of a text, sign by sign. -/
namespace Pl
set_option linter.unusedVariables false
set_option linter.unusedSimpArgs false
def chN (s : List UInt8) (j : Nat) : Nat := (s[j]?.getD 0).toNat
def okC (s : List UInt8) (j : Nat) : Prop := if j = 4 ∨ j = 7 then chN s j = 45 else 48 ≤ chN s j ∧ chN s j ≤ 57
def stP (s : List UInt8) : Nat → Nat × Int × Int × Int
  | 0 => (0, 0, 0, 0)
  | i + 1 =>
    let p := stP s i
    if i = 4 ∨ i = 7 then (p.1 + 1, p.2)
    else if p.1 = 0 then (0, 10 * p.2.1 + ((chN s i : Int) - 48), p.2.2)
    else if p.1 = 1 then (1, p.2.1, 10 * p.2.2.1 + ((chN s i : Int) - 48), p.2.2.2)
    else (p.1, p.2.1, p.2.2.1, 10 * p.2.2.2 + ((chN s i : Int) - 48))
theorem stP_zero (s : List UInt8) : stP s 0 = (0, 0, 0, 0) := rfl
theorem stP_at (s : List UInt8) {i : Nat} (h : i ≤ 10) : (stP s i).1 ≤ 2 := by
  have : i = 0 ∨ i = 1 ∨ i = 2 ∨ i = 3 ∨ i = 4 ∨ i = 5 ∨ i = 6 ∨ i = 7 ∨ i = 8 ∨ i = 9 ∨ i = 10 := by omega
  rcases this with rfl | rfl | rfl | rfl | rfl | rfl | rfl | rfl | rfl | rfl | rfl <;> simp [stP]
theorem stP_dash (s : List UInt8) {i : Nat} (h : i = 4 ∨ i = 7) : stP s (i + 1) = ((stP s i).1 + 1, (stP s i).2) := by
  rw [stP]; rw [if_pos h]
theorem stP_0 (s : List UInt8) {i : Nat} (h : ¬ (i = 4 ∨ i = 7)) (ha : (stP s i).1 = 0) : stP s (i + 1) = (0, 10 * (stP s i).2.1 + ((chN s i : Int) - 48), (stP s i).2.2) := by
  rw [stP]; rw [if_neg h, if_pos ha]
theorem stP_1 (s : List UInt8) {i : Nat} (h : ¬ (i = 4 ∨ i = 7)) (ha : (stP s i).1 = 1) : stP s (i + 1) = (1, (stP s i).2.1, 10 * (stP s i).2.2.1 + ((chN s i : Int) - 48), (stP s i).2.2.2) := by
  rw [stP]; rw [if_neg h, if_neg (by omega), if_pos ha]
theorem stP_2 (s : List UInt8) {i : Nat} (h : ¬ (i = 4 ∨ i = 7)) (ha : (stP s i).1 = 2) : stP s (i + 1) = (2, (stP s i).2.1, (stP s i).2.2.1, 10 * (stP s i).2.2.2 + ((chN s i : Int) - 48)) := by
  rw [stP]; rw [if_neg h, if_neg (by omega), if_neg (by omega), ha]
theorem stP_rng (s : List UInt8) : ∀ {i : Nat}, i ≤ 10 → (∀ j, j < i → okC s j) →
    (0 ≤ (stP s i).2.1 ∧ (stP s i).2.1 < 10 ^ i) ∧ (0 ≤ (stP s i).2.2.1 ∧ (stP s i).2.2.1 < 10 ^ i) ∧ (0 ≤ (stP s i).2.2.2 ∧ (stP s i).2.2.2 < 10 ^ i)
  | 0, _, _ => by simp [stP]
  | i + 1, hi, h => by
    obtain ⟨a, b, c⟩ := stP_rng s (i := i) (by omega) (fun j hj => h j (by omega))
    have e : (10 : Int) ^ (i + 1) = 10 * 10 ^ i := by rw [Int.pow_succ]; omega
    have p0 : (0 : Int) < 10 ^ i := by exact Int.pow_pos (by decide)
    rw [e]
    by_cases hd : i = 4 ∨ i = 7
    · rw [stP_dash s hd]; simp only; omega
    · have hc := h i (by omega)
      unfold okC at hc; rw [if_neg hd] at hc
      have ha := stP_at s (i := i) (by omega)
      rcases (show (stP s i).1 = 0 ∨ (stP s i).1 = 1 ∨ (stP s i).1 = 2 by omega) with h0 | h0 | h0
      · rw [stP_0 s hd h0]; simp only; omega
      · rw [stP_1 s hd h0]; simp only; omega
      · rw [stP_2 s hd h0]; simp only; omega
theorem ten_pow {i : Nat} (h : i ≤ 10) : (10 : Int) ^ i ≤ 10000000000 := by
  have : i = 0 ∨ i = 1 ∨ i = 2 ∨ i = 3 ∨ i = 4 ∨ i = 5 ∨ i = 6 ∨ i = 7 ∨ i = 8 ∨ i = 9 ∨ i = 10 := by omega
  rcases this with rfl | rfl | rfl | rfl | rfl | rfl | rfl | rfl | rfl | rfl | rfl <;> decide
theorem stP_small (s : List UInt8) {i : Nat} (hi : i ≤ 10) (h : ∀ j, j < i → okC s j) :
    (0 ≤ (stP s i).2.1 ∧ (stP s i).2.1 < 10000000000) ∧ (0 ≤ (stP s i).2.2.1 ∧ (stP s i).2.2.1 < 10000000000) ∧ (0 ≤ (stP s i).2.2.2 ∧ (stP s i).2.2.2 < 10000000000) := by
  have := stP_rng s hi h
  have t := ten_pow hi
  omega
theorem ok_next {s : List UInt8} {i : Nat} (h : ∀ j, j < i → okC s j) (hc : okC s i) : ∀ j, j < i + 1 → okC s j := fun j hj => by
  rcases (show j < i ∨ j = i by omega) with hh | hh
  · exact h j hh
  · rw [hh]; exact hc
theorem isDig_ch {c : UInt8} (h : 48 ≤ c.toNat ∧ c.toNat ≤ 57) : isDig c = true := by simpa [isDig] using h
theorem ch_isDig {c : UInt8} (h : isDig c = true) : 48 ≤ c.toNat ∧ c.toNat ≤ 57 := by simpa [isDig] using h
theorem ten_list {s : List UInt8} (h : s.length = 10) : ∃ a b c d e f g i j k, s = [a, b, c, d, e, f, g, i, j, k] := by
  match s, h with
  | [a, b, c, d, e, f, g, i, j, k], _ => exact ⟨a, b, c, d, e, f, g, i, j, k, rfl⟩
theorem parse_all {s : List UInt8} (hl : s.length = 10) (h : ∀ j, j < 10 → okC s j) : parseR s = ofR (stP s 10).2.1 (stP s 10).2.2.1 (stP s 10).2.2.2 := by
  obtain ⟨a, b, c, d, e, f, g, i, j, k, rfl⟩ := ten_list hl
  have o0 := h 0 (by omega); have o1 := h 1 (by omega); have o2 := h 2 (by omega); have o3 := h 3 (by omega); have o4 := h 4 (by omega)
  have o5 := h 5 (by omega); have o6 := h 6 (by omega); have o7 := h 7 (by omega); have o8 := h 8 (by omega); have o9 := h 9 (by omega)
  simp [okC, chN] at o0 o1 o2 o3 o4 o5 o6 o7 o8 o9
  have e4 : e = 45 := UInt8.toNat_inj.1 o4
  have e7 : i = 45 := UInt8.toNat_inj.1 o7
  have i0 := isDig_ch o0; have i1 := isDig_ch o1; have i2 := isDig_ch o2; have i3 := isDig_ch o3
  have i5 := isDig_ch o5; have i6 := isDig_ch o6; have i8 := isDig_ch o8; have i9 := isDig_ch o9
  unfold parseR
  rw [if_pos (by simp [formB, e4, e7, i0, i1, i2, i3, i5, i6, i8, i9])]
  simp [valF, stP, chN]
theorem parse_sign {s : List UInt8} {i : Nat} (hl : s.length = 10) (hi : i < 10) (h : ¬ okC s i) : parseR s = (0, 3) := by
  refine parse_bad fun hb => h ?_
  obtain ⟨a, b, c, d, e, f, g, w, j, k, rfl⟩ := ten_list hl
  simp [formB] at hb
  obtain ⟨h4, h7, ⟨i0, i1, i2, i3⟩, ⟨i5, i6⟩, i8, i9⟩ := hb
  have d0 := ch_isDig i0; have d1 := ch_isDig i1; have d2 := ch_isDig i2; have d3 := ch_isDig i3
  have d5 := ch_isDig i5; have d6 := ch_isDig i6; have d8 := ch_isDig i8; have d9 := ch_isDig i9
  have : i = 0 ∨ i = 1 ∨ i = 2 ∨ i = 3 ∨ i = 4 ∨ i = 5 ∨ i = 6 ∨ i = 7 ∨ i = 8 ∨ i = 9 := by omega
  rcases this with rfl | rfl | rfl | rfl | rfl | rfl | rfl | rfl | rfl | rfl <;> simp [okC, chN, h4, h7, d0, d1, d2, d3, d5, d6, d8, d9]
theorem of_rng (y m d : Int) : (0 ≤ (ofR y m d).1 ∧ (ofR y m d).1 ≤ 200000) ∧ (0 ≤ (ofR y m d).2 ∧ (ofR y m d).2 ≤ 2) := by
  by_cases h : d < 1 ∨ mlenD y m < d
  · rw [of_bad h]; decide
  · have hin := mlen_in (y := y) (m := m) (d := d) (by omega) (by omega)
    have ml := mlen_rng hin.1.1 hin.1.2 hin.2.1 hin.2.2
    have nr := ny_rng hin.1.1 (by omega)
    have b1 := bef_mono (y := y) (m := 1) (n := m) (by omega) (by omega) hin.2.1
    have b2 := bef_mono (y := y) (m := m) (n := 13) (by omega) hin.2.1 (by omega)
    rw [bef_first] at b1
    rw [bef_end hin.1.1 hin.1.2] at b2
    have yp := year_pos y
    rw [of_ok (by omega) (by omega)]
    simp only [dayD]
    omega
theorem of_r1 (y m d : Int) : (-9223372036854775808 ≤ (ofR y m d).1) = True := eq_true (by have := of_rng y m d; omega)
theorem of_r2 (y m d : Int) : ((ofR y m d).1 ≤ 9223372036854775807) = True := eq_true (by have := of_rng y m d; omega)
theorem of_r3 (y m d : Int) : (-9223372036854775808 ≤ (ofR y m d).2) = True := eq_true (by have := of_rng y m d; omega)
theorem of_r4 (y m d : Int) : ((ofR y m d).2 ≤ 9223372036854775807) = True := eq_true (by have := of_rng y m d; omega)
open Go Ab
/-- the number that is being read -/
def curP (s : List UInt8) (i : Nat) : Int := if (stP s i).1 = 0 then (stP s i).2.1 else if (stP s i).1 = 1 then (stP s i).2.2.1 else (stP s i).2.2.2
theorem cur_rng (s : List UInt8) {i : Nat} (hi : i ≤ 10) (h : ∀ j, j < i → okC s j) : 0 ≤ curP s i ∧ curP s i < 10000000000 := by
  have := stP_small s hi h
  unfold curP
  split
  · omega
  · split <;> omega
theorem cur_get (s : List UInt8) {i : Nat} (hi : i ≤ 10) : [D.int IntKind.i64 (stP s i).2.1, D.int IntKind.i64 (stP s i).2.2.1, D.int IntKind.i64 (stP s i).2.2.2][(stP s i).1]?.getD (D.int IntKind.i64 0) = D.int IntKind.i64 (curP s i) := by
  have ha := stP_at s hi
  unfold curP
  rcases (show (stP s i).1 = 0 ∨ (stP s i).1 = 1 ∨ (stP s i).1 = 2 by omega) with h0 | h0 | h0 <;> simp [h0]
theorem cur_set (s : List UInt8) {i : Nat} (hi : i ≤ 10) (hd : ¬ (i = 4 ∨ i = 7)) (v : Int) (hv : v = 10 * curP s i + ((chN s i : Int) - 48)) :
    ([D.int IntKind.i64 (stP s i).2.1, D.int IntKind.i64 (stP s i).2.2.1, D.int IntKind.i64 (stP s i).2.2.2].set (stP s i).1 (D.int IntKind.i64 v)) = [D.int IntKind.i64 (stP s (i + 1)).2.1, D.int IntKind.i64 (stP s (i + 1)).2.2.1, D.int IntKind.i64 (stP s (i + 1)).2.2.2] ∧ (stP s (i + 1)).1 = (stP s i).1 := by
  have ha := stP_at s hi
  subst hv
  unfold curP
  rcases (show (stP s i).1 = 0 ∨ (stP s i).1 = 1 ∨ (stP s i).1 = 2 by omega) with h0 | h0 | h0
  · rw [stP_0 s hd h0, if_pos h0, h0]; exact ⟨rfl, rfl⟩
  · rw [stP_1 s hd h0, if_neg (by omega), if_pos h0, h0]; exact ⟨rfl, rfl⟩
  · rw [stP_2 s hd h0, if_neg (by omega), if_neg (by omega), h0]; exact ⟨rfl, rfl⟩
end Pl

/- Notices: the text. -/
namespace Pl
open Go Ab
set_option linter.unusedVariables false
def duS : List UInt8 := [32, 105, 115, 32, 100, 117, 101, 32, 111, 110, 32]
theorem duS_eq : duS = [32, 105, 115, 32, 100, 117, 101, 32, 111, 110, 32] := rfl
@[simp] theorem duS_len : duS.length = 11 := rfl
def waS : List UInt8 := [32, 119, 97, 115, 32, 100, 117, 101, 32, 111, 110, 32]
theorem waS_eq : waS = [32, 119, 97, 115, 32, 100, 117, 101, 32, 111, 110, 32] := rfl
@[simp] theorem waS_len : waS.length = 12 := rfl
def wtS : List UInt8 := [32, 119, 97, 105, 116, 115, 32, 102, 111, 114, 32, 121, 111, 117, 32, 117, 110, 116, 105, 108, 32]
theorem wtS_eq : wtS = [32, 119, 97, 105, 116, 115, 32, 102, 111, 114, 32, 121, 111, 117, 32, 117, 110, 116, 105, 108, 32] := rfl
@[simp] theorem wtS_len : wtS.length = 21 := rfl
def rcS : List UInt8 := [32, 105, 115, 32, 119, 97, 110, 116, 101, 100, 32, 98, 121, 32, 115, 111, 109, 101, 98, 111, 100, 121, 32, 101, 108, 115, 101, 44, 32, 112, 108, 101, 97, 115, 101, 32, 114, 101, 116, 117, 114, 110, 32, 105, 116, 32, 98, 121, 32]
theorem rcS_eq : rcS = [32, 105, 115, 32, 119, 97, 110, 116, 101, 100, 32, 98, 121, 32, 115, 111, 109, 101, 98, 111, 100, 121, 32, 101, 108, 115, 101, 44, 32, 112, 108, 101, 97, 115, 101, 32, 114, 101, 116, 117, 114, 110, 32, 105, 116, 32, 98, 121, 32] := rfl
@[simp] theorem rcS_len : rcS.length = 49 := rfl
def itS : List UInt8 := [58, 32, 105, 116, 101, 109, 32]
theorem itS_eq : itS = [58, 32, 105, 116, 101, 109, 32] := rfl
@[simp] theorem itS_len : itS.length = 7 := rfl
def paS : List UInt8 := [112, 97, 116, 114, 111, 110, 32]
theorem paS_eq : paS = [112, 97, 116, 114, 111, 110, 32] := rfl
@[simp] theorem paS_len : paS.length = 7 := rfl

def idxP (p : Patr → Bool) : Int → List Patr → Int
  | _, [] => -1
  | i, x :: l => if p x = true then i else idxP p (i + 1) l
theorem idxP_cs (p : Patr → Bool) : ∀ (l : List Patr) (i : Int), (idxP p i l = -1 ∧ l.find? p = none) ∨ ∃ (j : Nat) (x : Patr), idxP p i l = i + j ∧ l[j]? = some x ∧ l.find? p = some x
  | [], i => .inl ⟨rfl, rfl⟩
  | x :: l, i => by
    unfold idxP
    cases h : p x with
    | true => exact .inr ⟨0, x, by simp, rfl, by simp [h]⟩
    | false =>
      rcases idxP_cs p l (i + 1) with ⟨h1, h2⟩ | ⟨j, y, h1, h2, h3⟩
      · exact .inl ⟨by simp [h1], by simp [h, h2]⟩
      · refine .inr ⟨j + 1, y, ?_, by simpa using h2, by simp [h, h3]⟩
        simp only [Bool.false_eq_true, if_false]; rw [h1]; omega
def getP (l : List Patr) (i : Int) : Option Patr := l.find? (fun x => decide (x.id = i))
theorem getP_cs (l : List Patr) (i : Int) : (idxP (fun x => decide (x.id = i)) 0 l = -1 ∧ getP l i = none) ∨ ∃ (j : Nat) (x : Patr), idxP (fun x => decide (x.id = i)) 0 l = (j : Int) ∧ l[j]? = some x ∧ getP l i = some x := by
  rcases idxP_cs (fun x => decide (x.id = i)) l 0 with h | ⟨j, x, h1, h2, h3⟩
  · exact .inl h
  · exact .inr ⟨j, x, by rw [h1]; omega, h2, h3⟩
def nameR (l : List Patr) (i : Int) : List UInt8 := match getP l i with | some p => p.name | none => paS ++ Go.Lib.itoa i
theorem nameR_none {l : List Patr} {i : Int} (h : getP l i = none) : nameR l i = paS ++ Go.Lib.itoa i := by unfold nameR; rw [h]
theorem nameR_some {l : List Patr} {i : Int} {p : Patr} (h : getP l i = some p) : nameR l i = p.name := by unfold nameR; rw [h]
def PatrOk (l : List Patr) : Prop := ∀ p ∈ l, p.name.length ≤ 1000
theorem nameR_len {l : List Patr} {i : Int} (hp : PatrOk l) (h0 : -9223372036854775808 ≤ i) (h1 : i ≤ 9223372036854775807) : (nameR l i).length ≤ 1000 := by
  have hi := Go.Lib.itoa_length_le i h0 h1
  unfold nameR
  split
  · rename_i p h; exact hp p (List.mem_of_find?_eq_some h)
  · simp; omega
def restR (k : Int) : List UInt8 := if k = 1 then duS else if k = 2 then waS else if k = 3 then wtS else rcS
theorem restR_len (k : Int) : (restR k).length ≤ 60 := by unfold restR; split <;> (try split) <;> (try split) <;> simp
noncomputable def textR (l : List Patr) (n : Note) : List UInt8 :=
  if 1 ≤ n.kind ∧ n.kind ≤ 4 then nameR l n.patron ++ itS ++ Go.Lib.itoa n.item ++ restR n.kind ++ formatR n.day else []
/-- The digits that are left and those that stand. -/
def NumI (n y : Int) (s : List UInt8) : Prop := y.natAbs ≤ n.natAbs ∧ (if y = 0 then [] else Go.Lib.decDigits y.natAbs) ++ s = Go.Lib.decDigits n.natAbs
theorem NumI.start {n : Int} (h : ¬ n = 0) : NumI n n [] := ⟨Nat.le_refl _, by rw [if_neg h]; simp⟩
theorem NumI.step {n y d : Int} {s : List UInt8} (h : NumI n y s) (hy : ¬ y = 0) (hd : d = if y.tmod 10 < 0 then -(y.tmod 10) else y.tmod 10) : NumI n (y.tdiv 10) (UInt8.ofNat (48 + d.toNat) :: s) := by
  obtain ⟨h1, h2⟩ := h
  have e1 : (y.tdiv 10).natAbs = y.natAbs / 10 := Int.natAbs_tdiv y 10
  have e2 : (y.tmod 10).natAbs = y.natAbs % 10 := Int.natAbs_tmod y 10
  have e3 : d.toNat = y.natAbs % 10 := by rw [← e2, hd]; split <;> omega
  have h0 : 0 < y.natAbs := Int.natAbs_pos.2 hy
  rw [if_neg hy] at h2
  refine ⟨by omega, ?_⟩
  rw [← h2, e3]
  conv => rhs; rw [Go.Lib.decDigits]
  by_cases hs : y.natAbs < 10
  · have : y.tdiv 10 = 0 := Int.natAbs_eq_zero.1 (by omega)
    rw [if_pos this, dif_pos hs]
    have : y.natAbs % 10 = y.natAbs := Nat.mod_eq_of_lt hs
    rw [this]; rfl
  · have : ¬ y.tdiv 10 = 0 := fun e => by rw [e] at e1; simp at e1; omega
    rw [if_neg this, dif_neg hs, e1]; simp
theorem NumI.len {n y : Int} {s : List UInt8} (h : NumI n y s) (h0 : -9223372036854775808 ≤ n) (h1 : n ≤ 9223372036854775807) : s.length ≤ 21 := by
  have hi := Go.Lib.itoa_length_le n h0 h1
  have hl := congrArg List.length h.2
  rw [List.length_append] at hl
  unfold Go.Lib.itoa at hi
  split at hi
  · simp only [List.length_cons] at hi; omega
  · rw [show n.toNat = n.natAbs by omega] at hi; omega
theorem NumI.done {n : Int} {s : List UInt8} (h : NumI n 0 s) : (if n < 0 then [45] else []) ++ s = Go.Lib.itoa n := by
  have h2 := h.2
  rw [if_pos rfl, List.nil_append] at h2
  unfold Go.Lib.itoa
  split
  · rw [h2]; rfl
  · rw [h2, show n.toNat = n.natAbs by omega]; rfl
theorem formatR_len (d : Int) : (formatR d).length ≤ 10 := by
  by_cases h : 0 ≤ d ∧ d ≤ 109572
  · rw [format_ok h]; simp [digD_len]
  · rw [format_bad h]; simp
theorem num_dig {d : Int} (h0 : 0 ≤ d) (h1 : d < 10) : Ab.byteOf (D.int IntKind.u8 (IntKind.u8.wrap (IntKind.i64.wrap (48 + d)))) = UInt8.ofNat (48 + d.toNat) := dig_eq h0 h1
def smaP (l : List Patr) : Bool := decide (l.length ≤ 60) && l.all (fun p => decide (p.name.length ≤ 1000))
def smaF (_ : Unit) : List Patr → Bool
  | [] => true
  | p :: l => if p.name.length ≤ 1000 then smaF () l else false
theorem smaF_eq : ∀ l : List Patr, smaF () l = l.all (fun p => decide (p.name.length ≤ 1000))
  | [] => rfl
  | p :: l => by
    rw [smaF, smaF_eq l, List.all_cons]
    by_cases h : p.name.length ≤ 1000
    · rw [if_pos h]; simp [h]
    · rw [if_neg h]; simp [h]
theorem smaP_ok {l : List Patr} (h : smaP l = true) : PatrOk l := fun p hp => by
  unfold smaP at h
  rw [Bool.and_eq_true, List.all_eq_true] at h
  simpa using h.2 p hp
end Pl

/- Dates: the chapter's examples. -/
namespace Pl
theorem ex_months1 : monthsR 30 1 = (58, 0) := by
  have hp : partsP 30 = ⟨1900, 1, 31⟩ := parts_eq ⟨by decide, by decide, by decide⟩
  have hk : monK 30 1 = 22801 := by unfold monK; rw [hp]; decide
  have := months_c (day := 30) (n := 1) ⟨⟨by decide, by decide⟩, by decide, by decide⟩ (by rw [hk]; decide)
  rw [this, hk, hp]; decide
theorem ex_months2 : monthsR 0 (-1) = (0, 2) := by
  have hp : partsP 0 = ⟨1900, 1, 1⟩ := parts_eq ⟨by decide, by decide, by decide⟩
  have hk : monK 0 (-1) = 22799 := by unfold monK; rw [hp]; decide
  exact months_b (day := 0) (n := -1) ⟨⟨by decide, by decide⟩, by decide, by decide⟩ (by rw [hk]; decide)
theorem ex_format : formatR 46340 = [50, 48, 50, 54, 45, 49, 49, 45, 49, 54] := by
  have hp : partsP 46340 = ⟨2026, 11, 16⟩ := parts_eq ⟨by decide, by decide, by decide⟩
  rw [format_ok ⟨by decide, by decide⟩, hp]; decide
theorem ex_of1 : ofR 2026 11 16 = (46340, 0) := by decide
theorem ex_of2 : ofR 2000 2 29 = (36583, 0) := by decide
theorem ex_of3 : ofR 1900 2 29 = (0, 2) := by decide
theorem ex_p1 : parseR [50, 49, 57, 57, 45, 49, 50, 45, 51, 49] = (109572, 0) := by decide
theorem ex_p2 : parseR [50, 48, 50, 54, 45, 48, 50, 45, 51, 48] = (0, 2) := by decide
theorem ex_p3 : parseR [50, 48, 50, 54, 45, 50, 45, 51] = (0, 3) := by decide
end Pl

/- Notices: the laws, in plain Lean. -/
namespace Pl
open Go Ab
set_option linter.unusedVariables false

theorem encItm_eq (x : Itm) : encItm x = .agg [.int .i64 x.id, .int .i64 x.rcd, .int .i64 x.br, .int .i64 x.kind, .int .i64 x.price, .str x.call, .int .i64 x.cus.st, .int .i64 x.cus.br, .int .i64 x.cus.who, .int .i64 x.cus.to] := rfl
/-- The example. -/
def cEx : Circ := ⟨100, [], [], [⟨2, 5, 80, 99, 0, true⟩, ⟨3, 5, 80, 103, 0, false⟩], [], [], [], ⟨⟨0, []⟩, ⟨0, []⟩, ⟨0, []⟩, ⟨0, []⟩⟩, [], 0, 0, false⟩
theorem due_ex2 : dueN cEx 2 = [⟨2, 5, 2, 99⟩, ⟨4, 5, 2, 99⟩] := by rw [dueN, stab_puts]; decide
theorem due_ex3 : dueN cEx 3 = [⟨1, 5, 3, 103⟩, ⟨2, 5, 2, 99⟩, ⟨4, 5, 2, 99⟩] := by rw [dueN, stab_puts]; decide
theorem cnt_ex : noCN [⟨2, 5, 2, 46340⟩, ⟨9, 0, 0, 0⟩, ⟨2, 5, 2, 46340⟩] = ⟨1, 0, 2, 0, 0⟩ := by decide
theorem text_ex : textR cEx.patrons ⟨2, 5, 2, 46340⟩ = [112, 97, 116, 114, 111, 110, 32, 53, 58, 32, 105, 116, 101, 109, 32, 50, 32, 119, 97, 115, 32, 100, 117, 101, 32, 111, 110, 32, 50, 48, 50, 54, 45, 49, 49, 45, 49, 54] := by
  have i5 : Go.Lib.itoa 5 = [53] := by rw [itoa_pos (by omega), Go.Lib.decDigits]; rfl
  have i2 : Go.Lib.itoa 2 = [50] := by rw [itoa_pos (by omega), Go.Lib.decDigits]; rfl
  rw [textR, if_pos (by decide), ex_format, i2, nameR_none rfl, i5]; rfl

/-- The states that the chapter speaks of. -/
def rlF (_ : Unit) : List Loan → Bool
  | [] => true
  | n :: l => if isDay n.due = true then rlF () l else false
def rhF (_ : Unit) : List Hld → Bool
  | [] => true
  | h :: l => if isDay h.til = true then rhF () l else false
def rigC (c : Circ) : Bool := decide (c.loans.length ≤ 60) && decide (c.holds.length ≤ 60) && isDay c.today && rlF () c.loans && rhF () c.holds
theorem rlF_mem : ∀ {l : List Loan}, rlF () l = true → ∀ n ∈ l, isDay n.due = true
  | [], _, n, hn => by cases hn
  | m :: l, h, n, hn => by
    rw [rlF] at h
    split at h
    · rcases List.mem_cons.1 hn with rfl | hn
      · assumption
      · exact rlF_mem h n hn
    · cases h
structure RigP (c : Circ) : Prop where
  h1 : c.loans.length ≤ 60
  h2 : c.holds.length ≤ 60
  day : isDay c.today = true
  due : ∀ n ∈ c.loans, isDay n.due = true
theorem rigC_ok {c : Circ} (h : rigC c = true) : RigP c := by
  unfold rigC at h
  simp only [Bool.and_eq_true, decide_eq_true_iff] at h
  exact ⟨h.1.1.1.1, h.1.1.1.2, h.1.1.2, rlF_mem h.1.2⟩
theorem rigC_a {c : Circ} (h : 60 < c.loans.length ∨ 60 < c.holds.length ∨ isDay c.today = false) : rigC c = false := by
  unfold rigC
  rcases h with h | h | h
  · rw [show decide (c.loans.length ≤ 60) = false by simp; omega]; rfl
  · rw [show decide (c.holds.length ≤ 60) = false by simp; omega]; simp
  · rw [h]; simp
theorem rigC_l {c : Circ} (h : rlF () c.loans = false) : rigC c = false := by unfold rigC; rw [h]; simp
theorem rigC_h {c : Circ} (h : rhF () c.holds = false) : rigC c = false := by unfold rigC; rw [h]; simp
theorem rigC_t {c : Circ} (h1 : c.loans.length ≤ 60) (h2 : c.holds.length ≤ 60) (h3 : isDay c.today = true) (h4 : rlF () c.loans = true) (h5 : rhF () c.holds = true) : rigC c = true := by
  unfold rigC; simp [h1, h2, h3, h4, h5]
theorem dueN_len {c : Circ} (h : RigP c) (a : Int) : (dueN c a).length ≤ 180 := by
  have h1 := dueL_len c a
  have h2 := h.h1
  have h3 := h.h2
  rw [dueN, stabM_len]; omega
end Pl

set_option maxRecDepth 100000
set_option linter.unusedSimpArgs false
set_option linter.unusedVariables false
namespace Go.Proofs.YtjpjndfdncalfaaDoor
open Go Ab Pl
open Go.RowKit
theorem info_note : (Tryd.prog.info? 42).map (fun i => (i.zero, i.size, i.bytes)) = some (some (.agg #[.int .i64 0, .int .i64 0, .int .i64 0, .int .i64 0]), 4, 32) := by kernel_rfl
/-- the loan's box, the box of the list, and the row of the list -/
structure AddW (n0 : Nat) (i p o d e : Int) (b : Bool) (w : World) (k : Nat) (xs : List Value) (hv : Value) : Prop where
  loan : w.heap[n0]? = some (.cells #[.int .i64 i, .int .i64 p, .int .i64 o, .int .i64 d, .int .i64 e, .bool b] 47 (0, 0))
  box : w.heap[n0 + 1]? = some (.cells #[hv] 38 (0, 0))
  row : w.ownsRow (n0 + 2) 42 4 hv k xs
theorem add_ok (w : World) (n0 : Nat) (hv : Value) (i p o d e : Int) (b : Bool) (kind : Int) (k : Nat) (xs : List Value) (hk : k ≤ 1) (h : AddW n0 i p o d e b w k xs hv) :
    Calls Tryd.prog 35 #[.int .i64 kind, .pointer (some ⟨n0 + 1, 0, none⟩), .pointer (some ⟨n0, 0, none⟩)] w fun z w' => z = .returned (.tuple #[]) ∧ Below n0 w w' ∧ ∃ hv', AddW n0 i p o d e b w' (k + 1) (xs ++ [.int .i64 kind, .int .i64 p, .int .i64 i, .int .i64 d]) hv' := by
  obtain ⟨inf, hi, hz0, hz1, hz2⟩ := info_parts info_note
  have hsz : n0 + 1 < w.heap.size := (Array.getElem?_eq_some_iff.1 h.box).1
  have c0 : w.cell? ⟨n0, 0, none⟩ = some (.int .i64 i) := by simp [World.cell?, h.loan]
  have c1 : w.cell? ⟨n0, 1, none⟩ = some (.int .i64 p) := by simp [World.cell?, h.loan]
  have c3 : w.cell? ⟨n0, 3, none⟩ = some (.int .i64 d) := by simp [World.cell?, h.loan]
  have cv : w.cell? ⟨n0 + 1, 0, none⟩ = some hv := by simp [World.cell?, h.box]
  go_enter Tryd.func35, Tryd.ntmps35
  go_wp2_with (at_builtin; go_loud (refine wpList_append_own _ rfl _ _ 38 rfl (n0 + 2) 42 inf _ 4 32 Tryd.underlying38 hi hz0 hz1 hz2 rfl (by decide) hv k xs rfl (h.row.alloc _) ⟨w.heap.size, 0, none⟩ 1 1 [.int .i64 kind, .int .i64 p, .int .i64 i, .int .i64 d] rfl rfl ?_ ?_ ?_ ?_ ?_ ?_))
  · intro j u hj
    rw [Addr.add_lit, cell_of_row _ _ _ _ _ _ (World.alloc_heap_new w _), Nat.zero_add]
    simpa using hj
  · simp [Value.oneCell']
  · simp only [maxLen]; omega
  · omega
  · simp; omega
  · intro v' w' hown hg _
    have hne : some (n0 + 1) ≠ hv.ownBlock := fun e => by have := h.row.lt (n0 + 1) e.symm; omega
    have hne0 : some n0 ≠ hv.ownBlock := fun e => by have := h.row.lt n0 e.symm; omega
    have hbx : w'.heap[n0 + 1]? = some (.cells #[hv] 38 (0, 0)) := by exact (hg.block (n0 + 1) (by simp; omega) hne).trans (((World.grownBy_alloc w _ none).block (n0 + 1) hsz (by simp)).trans h.box)
    have hln := (hg.block n0 (by simp; omega) hne0).trans (((World.grownBy_alloc w _ none).block n0 (by omega) (by simp)).trans h.loan)
    have cv' : w'.cell? ⟨n0 + 1, 0, none⟩ = some hv := by simp [World.cell?, hbx]
    have fv' : w'.frozen? ⟨n0 + 1, 0, none⟩ = false := by simp [World.frozen?, hbx]
    obtain ⟨q1, q2, q3, rfl⟩ : ∃ x y z, v' = .slice x y z := by
      rcases hown.2 with ⟨e, _⟩ | ⟨g, cap, cur, e, _⟩
      · exact ⟨_, _, _, e⟩
      · exact ⟨_, _, _, e⟩
    go_wp2
    go_end0
    refine ⟨rfl, (((Below.refl n0 w).alloc (by omega) _).grown hg (by simp; omega) (fun k e => by have := h.row.lt k e; omega)).setCell (p := ⟨n0 + 1, 0, none⟩) (by show n0 ≤ n0 + 1; omega) _, .slice q1 q2 q3, ⟨?_, ?_, ?_⟩⟩
    · simp [World.setCell, Array.getElem?_modify, hln]
    · simp [World.setCell, Array.getElem?_modify, hbx]
    · refine hown.kept (row := some (n0 + 1)) ⟨rfl, rfl, rfl, by simp [World.setCell], fun k hk e => ?_⟩ (.inr fun e => ?_)
      · simp only [World.setCell, Array.getElem?_modify]
        rw [if_neg (fun e' => e (by rw [← e']))]
      · have := hown.lt (n0 + 1) e
        omega
theorem AddW.cells {w : World} {n0 k : Nat} {i p o d e : Int} {b : Bool} {xs : List Value} {hv : Value} (h : AddW n0 i p o d e b w k xs hv) :
    w.cell? ⟨n0, 3, none⟩ = some (.int .i64 d) ∧ w.cell? ⟨n0 + 1, 0, none⟩ = some hv := by
  constructor
  · simp [World.cell?, h.loan]
  · simp [World.cell?, h.box]
def LoanPost (n0 : Nat) (w : World) (l : List Note) (z : Ending) (w' : World) : Prop := ∃ hv, z = .returned hv ∧ Below n0 w w' ∧ w'.ownsRow (n0 + 2) 42 4 hv l.length (noteVs l)
theorem loan_at (w : World) (n : Loan) (today ahead : Int) :
    Calls Tryd.prog 22 #[.agg #[.int .i64 n.item, .int .i64 n.patron, .int .i64 n.out, .int .i64 n.due, .int .i64 n.ren, .bool n.rcl], .int .i64 today, .int .i64 ahead] w (LoanPost w.heap.size w (loanN n today ahead)) := by
  obtain ⟨i, p, o, d, e, b⟩ := n
  have h0 : ∀ b, AddW w.heap.size i p o d e b ((w.alloc (.cells #[.int .i64 i, .int .i64 p, .int .i64 o, .int .i64 d, .int .i64 e, .bool b] 47)).alloc (.cells #[.slice none 0 0] 38)) 0 [] (.slice none 0 0) := fun b =>
    ⟨((World.grownBy_alloc _ _ none).block _ (by simp) (by simp)).trans (World.alloc_heap_new w _), by have := World.alloc_heap_new (w.alloc (.cells #[.int .i64 i, .int .i64 p, .int .i64 o, .int .i64 d, .int .i64 e, .bool b] 47)) (.cells #[.slice none 0 0] 38); rwa [World.size_alloc] at this, World.ownsRow_nil _ _ _ _⟩
  have hb0 : ∀ b, Below w.heap.size w ((w.alloc (.cells #[.int .i64 i, .int .i64 p, .int .i64 o, .int .i64 d, .int .i64 e, .bool b] 47)).alloc (.cells #[.slice none 0 0] 38)) := fun b =>
    ((Below.refl _ w).alloc (Nat.le_refl _) _).alloc (by simp) _
  have hw : ∀ x : Int, IntKind.i64.wrap x = wrap64 x := fun x => IntWalk.i64_left x
  go_enter Tryd.func22, Tryd.ntmps22
  cases b
  · go_wp2_with fail
    · refine (add_ok _ w.heap.size _ i p o d e false _ 0 [] (by omega) (h0 false)).mono ?_
      rintro z w' ⟨rfl, hb, hv', hA⟩
      obtain ⟨c3, cb⟩ := hA.cells
      go_wp2_with fail
      have hL : loanN ⟨i, p, o, d, e, false⟩ today ahead = [⟨2, p, i, d⟩] := by simp only [loanN]; rw [if_neg (by simp), if_pos (by omega)]; rfl
      rw [hL]
      go_ret
      exact ⟨_, rfl, (hb0 _).trans hb, hA.row⟩
    · refine (add_ok _ w.heap.size _ i p o d e false _ 0 [] (by omega) (h0 false)).mono ?_
      rintro z w' ⟨rfl, hb, hv', hA⟩
      obtain ⟨c3, cb⟩ := hA.cells
      go_wp2_with fail
      have hL : loanN ⟨i, p, o, d, e, false⟩ today ahead = [⟨1, p, i, d⟩] := by simp only [loanN]; rw [if_neg (by simp), if_neg (by omega), if_pos (by rw [hw]; omega)]; rfl
      rw [hL]
      go_ret
      exact ⟨_, rfl, (hb0 _).trans hb, hA.row⟩
    · have hL : loanN ⟨i, p, o, d, e, false⟩ today ahead = [] := by simp only [loanN]; rw [if_neg (by simp), if_neg (by omega), if_neg (by rw [hw]; omega)]; rfl
      rw [hL]
      go_ret
      exact ⟨_, rfl, hb0 _, (h0 false).row⟩
  · go_wp2_with fail
    refine (add_ok _ w.heap.size _ i p o d e true _ 0 [] (by omega) (h0 true)).mono ?_
    rintro z w' ⟨rfl, hb, hv', hA⟩
    obtain ⟨c3, cb⟩ := hA.cells
    go_wp2_with fail
    · refine (add_ok _ w.heap.size _ i p o d e true _ 1 _ (by omega) hA).mono ?_
      rintro z w'' ⟨rfl, hb', hv'', hA'⟩
      obtain ⟨c3', cb'⟩ := hA'.cells
      go_wp2_with fail
      have hL : loanN ⟨i, p, o, d, e, true⟩ today ahead = [⟨4, p, i, d⟩, ⟨2, p, i, d⟩] := by simp only [loanN]; rw [if_pos trivial, if_pos (by omega)]; rfl
      rw [hL]
      go_ret
      exact ⟨_, rfl, ((hb0 _).trans hb).trans hb', hA'.row⟩
    · refine (add_ok _ w.heap.size _ i p o d e true _ 1 _ (by omega) hA).mono ?_
      rintro z w'' ⟨rfl, hb', hv'', hA'⟩
      obtain ⟨c3', cb'⟩ := hA'.cells
      go_wp2_with fail
      have hL : loanN ⟨i, p, o, d, e, true⟩ today ahead = [⟨4, p, i, d⟩, ⟨1, p, i, d⟩] := by simp only [loanN]; rw [if_pos trivial, if_neg (by omega), if_pos (by rw [hw]; omega)]; rfl
      rw [hL]
      go_ret
      exact ⟨_, rfl, ((hb0 _).trans hb).trans hb', hA'.row⟩
    · have hL : loanN ⟨i, p, o, d, e, true⟩ today ahead = [⟨4, p, i, d⟩] := by simp only [loanN]; rw [if_pos trivial, if_neg (by omega), if_neg (by rw [hw]; omega)]; rfl
      rw [hL]
      go_ret
      exact ⟨_, rfl, (hb0 _).trans hb, hA.row⟩
theorem loan_ok (n : Loan) (today ahead : Int) : ACalls Tryd.prog 22 [encLoan n, .int .i64 today, .int .i64 ahead] (.own (encNote zn) (noteL (loanN n today ahead))) := by
  refine ACalls.of ⟨_, Tryd.func22, by kernel_rfl, by kernel_rfl⟩ fun w S vs hG hs hr => ?_
  have q0 := hr 0 _ rfl
  have q1 := hr 1 _ rfl
  have q2 := hr 2 _ rfl
  obtain ⟨i, p, o, d, e, b⟩ := n
  have hrg : (i64ok i ∧ i64ok p ∧ i64ok d) ∧ vs.getD 0 undef = .agg #[.int .i64 i, .int .i64 p, .int .i64 o, .int .i64 d, .int .i64 e, .bool b] := by
    generalize vs.getD 0 undef = v at q0
    rw [encLoan_eq] at q0
    cases q0 with
    | agg _ us hl hf h =>
      have k0 := h 0 _ rfl
      have k1 := h 1 _ rfl
      have k2 := h 2 _ rfl
      have k3 := h 3 _ rfl
      have k4 := h 4 _ rfl
      have k5 := h 5 _ rfl
      obtain ⟨us⟩ := us
      match us, hl with
      | [u0, u1, u2, u3, u4, u5], _ =>
        simp at k0 k1 k2 k3 k4 k5
        cases k0 with | int _ _ r0 => cases k1 with | int _ _ r1 => cases k2; cases k3 with | int _ _ r3 => cases k4; cases k5; exact ⟨⟨r0, r1, r3⟩, rfl⟩
  have hv : vs = #[.agg #[.int .i64 i, .int .i64 p, .int .i64 o, .int .i64 d, .int .i64 e, .bool b], .int .i64 today, .int .i64 ahead] := by
    have h0 := hrg.2
    obtain ⟨vs⟩ := vs
    match vs, hs with
    | [v0, v1, v2], _ =>
      simp at q1 q2 h0
      subst h0
      cases q1; cases q2; rfl
  rw [hv]
  refine (loan_at w ⟨i, p, o, d, e, b⟩ today ahead).mono ?_
  rintro z w' ⟨v, rfl, hb, hown⟩
  refine ⟨v, rfl, hb, own_notes hown (by omega) fun m hm => ?_⟩
  have c4 : i64ok 4 ∧ i64ok 2 ∧ i64ok 1 := by unfold i64ok; decide
  obtain ⟨⟨r0, r1, r3⟩, _⟩ := hrg
  simp only [loanN, List.mem_append] at hm
  rcases hm with hm | hm
  · split at hm
    · simp at hm; subst hm; exact ⟨c4.1, r1, r0, r3⟩
    · simp at hm
  · split at hm
    · simp at hm; subst hm; exact ⟨c4.2.1, r1, r0, r3⟩
    · split at hm
      · simp at hm; subst hm; exact ⟨c4.2.2, r1, r0, r3⟩
      · simp at hm

end Go.Proofs.YtjpjndfdncalfaaDoor

set_option maxRecDepth 100000
set_option linter.unusedSimpArgs false
set_option linter.unusedVariables false
namespace Go.Proofs.YtjpjndfdncalfaaDoor
open Go Ab Pl
theorem cmp_Or_int (l : List Int) : ACalls E.P 25 [.slice (.int .i64 0) (l.map (D.int .i64))] (.d (.int .i64 (orF l))) := by
  refine ACalls.intro E_ok Tryd.func25 rfl rfl Tryd.ntmps25 Tryd.results25 (Nat.le_of_ble_eq_true rfl) fun hok base S0 w0 => ?_
  have hll : l.length ≤ 9223372036854775807 := by have := (Ok_slice (hok (.slice (.int .i64 0) (l.map (D.int .i64))) (by simp))).1; simpa using this
  -- region 0
  refine AWp.rseq E_ok [0, 2, 3, 5, 6, 7, 8, 9, 14] fun K hK => ?_
  simp
  repeat refine ⟨by first | omega | assumption | (simp only [maxLen]; omega) | (intros; omega) | decide, ?_⟩
  refine hK _ ?_
  clear hK K
  -- region 1
  refine AWp.rseq E_ok [0, 2, 3, 5, 6, 7, 8, 9, 14] fun K hK => ?_
  simp
  repeat refine ⟨by first | omega | assumption | (simp only [maxLen]; omega) | (intros; omega) | decide, ?_⟩
  refine hK _ ?_
  clear hK K
  refine AWp.seq ?_
  -- region 2
  refine AWp.rseq E_ok [0, 2, 3, 5, 6, 7, 8, 9, 14] fun K hK => ?_
  simp
  repeat refine ⟨by first | omega | assumption | (simp only [maxLen]; omega) | (intros; omega) | decide, ?_⟩
  refine hK _ ?_
  clear hK K
  refine AWp.block ?_
  refine AWp.range (l := l) (F := orG) (tot := orF l) (fun k y => match y with | () => True) (fun k y => match y with | () => [(0, T.val ((D.int IntKind.i64 0).slice (List.map (D.int IntKind.i64) l))), (3, T.val (D.int IntKind.i64 0)), (6, T.val ((D.int IntKind.i64 0).slice (List.map (D.int IntKind.i64) l))), (7, T.val (D.int IntKind.i64 ↑l.length)), (8, T.val (.int .i64 (k : Int)))]) () ?_ rfl ?_ ?_
  · simp [Weak, TW]
  · first | exact trivial | (simp; omega) | simp
  rintro k ⟨⟩ hk hs hi
  try simp only at hi
  -- region 3
  refine AWp.rseq E_ok [0, 2, 3, 5, 6, 7, 8, 9, 14] fun K hK => ?_
  simp
  repeat refine ⟨by first | omega | assumption | (simp only [maxLen]; omega) | (intros; omega) | decide, ?_⟩
  refine hK _ ?_
  clear hK K
  refine AWp.seq ?_
  refine AWp.cond rfl (fun h9 => ?_) (fun h9 => ?_)
  · try simp at h9
    obtain ⟨x, hx, hxx, hd⟩ := at_indexG (l := l) h9
    rw [hd] at hs
    refine AWp.skip ?_
    repeat first | refine thenN ?_ | refine thenX ?_ | refine thenR ?_ | refine blockN ?_ | refine blockR ?_ | refine blockX ?_ | refine blockM rfl ?_
    refine AWp.seq ?_
    refine AWp.block ?_
    -- region 4
    refine AWp.rseq E_ok [0, 2, 3, 5, 6, 7, 8, 9, 14] fun K hK => ?_
    simp [h9, hx, hxx]
    repeat refine ⟨by first | omega | assumption | (simp only [maxLen]; omega) | (intros; omega) | decide, ?_⟩
    refine hK _ ?_
    clear hK K
    -- region 5
    refine AWp.rseq E_ok [0, 2, 3, 5, 6, 7, 8, 9, 14] fun K hK => ?_
    simp [h9, hx, hxx]
    repeat refine ⟨by first | omega | assumption | (simp only [maxLen]; omega) | (intros; omega) | decide, ?_⟩
    refine hK _ ?_
    clear hK K
    refine AWp.cond rfl (fun h14 => ?_) (fun h14 => ?_)
    · try simp at h14
      -- region 6
      refine AWp.rseq E_ok [0, 2, 3, 5, 6, 7, 8, 9, 14] fun K hK => ?_
      simp [h9, hx, hxx, h14]
      repeat refine ⟨by first | omega | assumption | (simp only [maxLen]; omega) | (intros; omega) | decide, ?_⟩
      refine hK _ ?_
      clear hK K
      refine AWp.ret ?_
      repeat first | refine thenN ?_ | refine thenX ?_ | refine thenR ?_ | refine blockN ?_ | refine blockR ?_ | refine blockX ?_ | refine blockM rfl ?_
      simp [orG, h14, orF] at hs
      simp [RetOk, RV, ← hs, orF] <;> simp_all
    · try simp at h14
      refine AWp.skip ?_
      repeat first | refine thenN ?_ | refine thenX ?_ | refine thenR ?_ | refine blockN ?_ | refine blockR ?_ | refine blockX ?_ | refine blockM rfl ?_
      -- region 7
      refine AWp.rend E_ok [0, 2, 3, 5, 6, 7, 8, 9, 14] fun K hK => ?_
      simp [h9, hx, hxx, h14]
      repeat refine ⟨by first | omega | assumption | (simp only [maxLen]; omega) | (intros; omega) | decide, ?_⟩
      refine hK _ ?_
      clear hK K
      repeat first | refine thenN ?_ | refine thenX ?_ | refine thenR ?_ | refine blockN ?_ | refine blockR ?_ | refine blockX ?_ | refine blockM rfl ?_
      have hw : IntKind.i64.wrap ((k : Int) + 1) = (k : Int) + 1 := by rw [wrap_i64] <;> omega
      simp [orG, h14, orF] at hs
      refine ⟨(()), h9, hs, ?_, ?_⟩
      · first | exact trivial | (simp; omega) | simp
      · simp [Weak, TW, hw, orF]
  · try simp at h9
    obtain rfl : k = l.length := by omega
    simp [orG] at hs
    refine AWp.exit ?_
    repeat first | refine thenN ?_ | refine thenX ?_ | refine thenR ?_ | refine blockN ?_ | refine blockR ?_ | refine blockX ?_ | refine blockM rfl ?_
    -- region 8
    refine AWp.rseq E_ok [0, 2, 3, 5, 6, 7, 8, 9, 14] fun K hK => ?_
    simp [h9]
    repeat refine ⟨by first | omega | assumption | (simp only [maxLen]; omega) | (intros; omega) | decide, ?_⟩
    refine hK _ ?_
    clear hK K
    refine AWp.ret ?_
    repeat first | refine thenN ?_ | refine thenX ?_ | refine thenR ?_ | refine blockN ?_ | refine blockR ?_ | refine blockX ?_ | refine blockM rfl ?_
    simp [RetOk, RV, ← hs, orF] <;> simp_all
end Go.Proofs.YtjpjndfdncalfaaDoor

set_option maxRecDepth 100000
set_option linter.unusedSimpArgs false
set_option linter.unusedVariables false
namespace Go.Proofs.YtjpjndfdncalfaaDoor
open Go Ab Pl
theorem cmp_isNaN_int (x : Int) : ACalls E.P 37 [.int .i64 x] (.d (.bool false)) := by
  refine ACalls.intro E_ok Tryd.func37 rfl rfl Tryd.ntmps37 Tryd.results37 (Nat.le_of_ble_eq_true rfl) fun hok base S0 w0 => ?_
  -- region 0
  refine AWp.rseq E_ok [0, 2] fun K hK => ?_
  simp
  repeat refine ⟨by first | omega | assumption | (simp only [maxLen]; omega) | (intros; omega) | decide, ?_⟩
  refine hK _ ?_
  clear hK K
  -- region 1
  refine AWp.rseq E_ok [0, 2] fun K hK => ?_
  simp
  repeat refine ⟨by first | omega | assumption | (simp only [maxLen]; omega) | (intros; omega) | decide, ?_⟩
  refine hK _ ?_
  clear hK K
  refine AWp.ret ?_
  repeat first | refine thenN ?_ | refine thenX ?_ | refine thenR ?_ | refine blockN ?_ | refine blockR ?_ | refine blockX ?_ | refine blockM rfl ?_
  simp [RetOk, RV, RVs]
end Go.Proofs.YtjpjndfdncalfaaDoor
