/-
  What the functions compute that the statement reaches: contracts, and the plain laws between them. Conditions stand at each theorem.
-/
import Derived.Test.YtceapemkefaicaaWalkOne
set_option linter.unusedVariables false
set_option linter.unusedSimpArgs false
/- Patterns of serials: Until, List and Nth agree. -/
namespace Pl
open Go Ab
set_option linter.unusedVariables false
set_option linter.unusedSimpArgs false
theorem asc_while : ∀ {l : List Iss}, l.Pairwise (fun a b => a.day < b.day) → ∀ {i : Nat} {x : Iss}, l[i]? = some x →
    (l.takeWhile fun y => decide (y.day ≤ x.day)).length = i + 1 ∧ (l.takeWhile fun y => decide (y.day ≤ x.day - 1)).length = i
  | [], _, i, x, h => by simp at h
  | y :: l, hp, 0, x, h => by
    cases h
    obtain ⟨h1, h2⟩ := List.pairwise_cons.1 hp
    have e : l.takeWhile (fun z => decide (z.day ≤ y.day)) = [] := by
      cases l with
      | nil => rfl
      | cons z l => rw [List.takeWhile_cons, if_neg (by have := h1 z (by simp); simp; omega)]
    constructor
    · rw [List.takeWhile_cons, if_pos (by simp), e]; rfl
    · rw [List.takeWhile_cons, if_neg (by simp; omega)]; rfl
  | y :: l, hp, i + 1, x, h => by
    obtain ⟨h1, h2⟩ := List.pairwise_cons.1 hp
    have hx : l[i]? = some x := by simpa using h
    have hlt := h1 x (List.mem_of_getElem? hx)
    obtain ⟨a, b⟩ := asc_while h2 hx
    constructor
    · rw [List.takeWhile_cons, if_pos (by simp; omega), List.length_cons, a]
    · rw [List.takeWhile_cons, if_pos (by simp; omega), List.length_cons, b]
theorem until_at {p : Pat} (hp : PatOk p) {i : Nat} {x : Iss} (h : (allI p)[i]? = some x) : untilR p x.day = (i : Int) + 1 ∧ untilR p (x.day - 1) = (i : Int) := by
  obtain ⟨a, b⟩ := asc_while (allI_asc hp) h
  unfold untilR
  rw [a, b]
  exact ⟨by omega, rfl⟩
theorem list_nat (p : Pat) (a b : Nat) : listR p (a : Int) (b : Int) = ((allI p).drop a).take b := by
  unfold listR
  by_cases h : (b : Int) < 1
  · rw [if_pos h, show b = 0 by omega]; simp
  · rw [if_neg h, if_neg (by omega)]; simp
theorem list_split (p : Pat) (a b : Nat) (h : b ≤ 60) : listR p (a : Int) 60 = listR p (a : Int) (b : Int) ++ listR p ((a : Int) + (b : Int)) (60 - (b : Int)) := by
  rw [show (60 : Int) = ((60 : Nat) : Int) from rfl, list_nat, list_nat, show (a : Int) + (b : Int) = ((a + b : Nat) : Int) by omega, show ((60 : Nat) : Int) - (b : Int) = ((60 - b : Nat) : Int) by omega, list_nat]
  rw [← List.drop_drop, ← List.take_add, show b + (60 - b) = 60 by omega]
theorem list_first {p : Pat} {a b : Nat} {x : Iss} {l : List Iss} (h : listR p (a : Int) (b : Int) = x :: l) : nthR p (a : Int) = (x, 0) := by
  rw [list_nat] at h
  have hx : ((allI p).drop a)[0]? = some x := by
    have h0 : (((allI p).drop a).take b)[0]? = some x := by rw [h]; rfl
    rw [List.getElem?_take] at h0
    split at h0
    · exact h0
    · cases h0
  rw [List.getElem?_drop] at hx
  unfold nthR
  rw [if_neg (by omega), show (a : Int).toNat = a + 0 by omega, hx]
theorem list_min (p : Pat) (a b : Nat) (h : b ≤ 60) : ((listR p (a : Int) (b : Int)).length : Int) = min (b : Int) ((listR p (a : Int) 60).length : Int) := by
  rw [show (60 : Int) = ((60 : Nat) : Int) from rfl, list_nat, list_nat, List.length_take, List.length_take]
  omega
theorem list_none {p : Pat} {a : Nat} (h : ¬ (nthR p (a : Int)).2 = 0) : listR p (a : Int) 1 = [] := by
  rw [show (1 : Int) = ((1 : Nat) : Int) from rfl, list_nat]
  by_cases hl : a < (allI p).length
  · obtain ⟨x, hx, hb⟩ := nth_get2 (p := p) (n := (a : Int)) (by omega) (by omega)
    rw [hb] at h; exact absurd rfl h
  · rw [List.drop_eq_nil_of_le (by omega)]; rfl
theorem nth_some {p : Pat} {a : Nat} (h : (nthR p (a : Int)).2 = 0) : (allI p)[a]? = some (nthR p (a : Int)).1 := by
  by_cases hl : a < (allI p).length
  · obtain ⟨x, hx, hb⟩ := nth_get2 (p := p) (n := (a : Int)) (by omega) (by omega)
    rw [hb, show (a : Int).toNat = a by omega] at *
    exact hx
  · rw [nth_miss (by omega)] at h; exact absurd h (by decide)
end Pl

/- Serials: what their operations compute. -/
namespace Pl
open Go Ab
set_option linter.unusedVariables false
set_option linter.unusedSimpArgs false
structure Ser where
  rcd : Int
  pat : Pat
  next : Int
  iss : List Iss
deriving DecidableEq
structure Spn where
  fr : Int
  til : Int
deriving DecidableEq
def encSer (s : Ser) : D := .agg [.int .i64 s.rcd, .int .i64 s.pat.start, .int .i64 s.pat.every, .int .i64 s.pat.per, .int .i64 s.pat.first, encInts s.pat.skip, encInts s.pat.dbl, .int .i64 s.next, encIsss s.iss]
theorem encSer_eq (s : Ser) : encSer s = .agg [.int .i64 s.rcd, .int .i64 s.pat.start, .int .i64 s.pat.every, .int .i64 s.pat.per, .int .i64 s.pat.first, encInts s.pat.skip, encInts s.pat.dbl, .int .i64 s.next, encIsss s.iss] := rfl
def encSpn (x : Spn) : D := .agg [.int .i64 x.fr, .int .i64 x.til]
theorem encSpn_eq (x : Spn) : encSpn x = .agg [.int .i64 x.fr, .int .i64 x.til] := rfl
def zSpn : Spn := ⟨0, 0⟩
def encSpns (l : List Spn) : D := .slice (encSpn zSpn) (l.map encSpn)
theorem encSpns_eq (l : List Spn) : encSpns l = .slice (encSpn zSpn) (l.map encSpn) := rfl
def zPat : Pat := ⟨0, 0, 0, 0, [], []⟩
def zSer : Ser := ⟨0, zPat, 0, []⟩
/-- an issue that has an item -/
def hasI (x : Iss) : Bool := decide (x.st = 2 ∨ x.st = 4)
theorem hasI_eq (x : Iss) : hasI x = decide (x.st = 2 ∨ x.st = 4) := rfl
theorem pat_eq (a b : Pat) : a = b ↔ ((((a.start = b.start ∧ a.every = b.every) ∧ a.per = b.per) ∧ a.first = b.first) ∧ a.skip = b.skip) ∧ a.dbl = b.dbl := by cases a; cases b; simp [and_assoc]
theorem ser_eq (a b : Ser) : a = b ↔ ((a.rcd = b.rcd ∧ a.next = b.next) ∧ a.iss = b.iss) ∧ a.pat = b.pat := by cases a; cases b; simp; constructor <;> (intro h; simp_all)
theorem spn_eq (x y : Spn) : x = y ↔ x.fr = y.fr ∧ x.til = y.til := by cases x; cases y; simp
def samS : List Spn → List Spn → Bool
  | _, [] => true
  | [], _ :: _ => false
  | y :: b, x :: a => if x = y then samS b a else false
theorem samS_eq : ∀ (a b : List Spn), a.length = b.length → samS b a = decide (a = b)
  | [], [], _ => by simp [samS]
  | x :: a, y :: b, h => by
    rw [samS, samS_eq a b (by simpa using h)]
    by_cases hxy : x = y
    · subst hxy; simp
    · simp [hxy]
theorem or_dec {a b c : Prop} [Decidable a] [Decidable b] [Decidable c] : ((decide a || decide b) = decide c) = ((a ∨ b) ↔ c) := by
  apply propext; rw [Bool.eq_iff_iff]; simp
theorem hasI_t {x : Iss} (h : x.st = 2 ∨ x.st = 4) : hasI x = true := decide_eq_true h
theorem hasI_f {x : Iss} (h : ¬ (x.st = 2 ∨ x.st = 4)) : hasI x = false := decide_eq_false h
/-- an issue of the pattern, in a state with its item -/
def OkI (w x : Iss) : Prop := (x.vol = w.vol ∧ x.num = w.num ∧ x.last = w.last ∧ x.day = w.day) ∧ (1 ≤ x.st ∧ x.st ≤ 5) ∧ ((x.st = 2 ∨ x.st = 4) ∧ 1 ≤ x.item ∧ x.item ≤ 9999 ∨ ¬ (x.st = 2 ∨ x.st = 4) ∧ x.item = 0)
instance (w x : Iss) : Decidable (OkI w x) := by unfold OkI; infer_instance
/-- two issues that must not have the same item -/
def Clash (x o : Iss) : Prop := x.item ≠ 0 ∧ x.item = o.item ∧ ¬ (x.st = 4 ∧ o.st = 4 ∧ x.vol = o.vol)
instance (x o : Iss) : Decidable (Clash x o) := by unfold Clash; infer_instance
def clF (x : Iss) : Unit → List Iss → Bool
  | _, [] => false
  | _, o :: l => if Clash x o then true else clF x () l
theorem clF_t {x : Iss} : ∀ {l : List Iss}, clF x () l = true → ∃ o ∈ l, Clash x o
  | [], h => by cases h
  | o :: l, h => by
    unfold clF at h
    split at h
    · exact ⟨o, by simp, by assumption⟩
    · obtain ⟨y, h1, h2⟩ := clF_t h; exact ⟨y, by simp [h1], h2⟩
theorem clF_f {x : Iss} : ∀ {l : List Iss}, clF x () l = false → ∀ o ∈ l, ¬ Clash x o
  | [], _, o, ho => by cases ho
  | o :: l, h, y, hy => by
    unfold clF at h
    split at h
    · cases h
    · rcases List.mem_cons.1 hy with rfl | hy
      · assumption
      · exact clF_f h y hy
theorem clF_no {x : Iss} : ∀ {l : List Iss}, (∀ o ∈ l, ¬ Clash x o) → clF x () l = false
  | [], _ => rfl
  | o :: l, h => by unfold clF; rw [if_neg (h o (by simp)), clF_no fun y hy => h y (by simp [hy])]
/-- are the issues from the i-th on as they must be? 'L': the pattern's issues; 'l': all issues -/
def okF (L l : List Iss) : Nat → List Iss → Bool
  | _, [] => true
  | i, x :: r => if OkI (L.getD i zIss) x then if clF x () (l.take i) = true then false else okF L l (i + 1) r else false
noncomputable def serR (s : Ser) : Int :=
  if s.rcd < 1 ∨ 9999 < s.rcd then 2
  else if ¬ patR s.pat = 0 then patR s.pat
  else if 128 < s.iss.length then 13
  else if s.next < 0 ∨ 5000 < s.next then 2
  else if ¬ (s.iss.length : Int) = s.next ∨ ¬ (((allI s.pat).take s.iss.length).length : Int) = s.next then 1
  else if okF (allI s.pat) s.iss 0 s.iss = true then 0 else 1
/-- a serial that Right accepts -/
structure SerOk (s : Ser) : Prop where
  rcd : 1 ≤ s.rcd ∧ s.rcd ≤ 9999
  pat0 : patR s.pat = 0
  len : s.iss.length ≤ 128
  next : s.next = (s.iss.length : Int)
  all : s.iss.length ≤ (allI s.pat).length
  at' : ∀ (i : Nat) (x : Iss), s.iss[i]? = some x → ∃ w, (allI s.pat)[i]? = some w ∧ OkI w x
  apart : ∀ (i k : Nat) (x o : Iss), s.iss[i]? = some x → k < i → s.iss[k]? = some o → ¬ Clash x o
theorem SerOk.pat {s : Ser} (h : SerOk s) : PatOk s.pat := patR_ok h.pat0
theorem okF_ok {L l : List Iss} : ∀ (r : List Iss) (i : Nat), i + r.length ≤ L.length → l.drop i = r → okF L l i r = true →
    ∀ j x, r[j]? = some x → (∃ w, L[i + j]? = some w ∧ OkI w x) ∧ ∀ k o, k < i + j → l[k]? = some o → ¬ Clash x o
  | [], i, _, _, _, j, x, hx => by simp at hx
  | y :: r, i, hl, hd, h, j, x, hx => by
    unfold okF at h
    split at h
    · rename_i hok
      split at h
      · cases h
      · rename_i hcl
        match j, hx with
        | 0, hx =>
          cases hx
          simp at hl
          have hi : i < L.length := by omega
          refine ⟨⟨L[i], by simp [hi], ?_⟩, fun k o hk ho => ?_⟩
          · rw [List.getD_eq_getElem?_getD, List.getElem?_eq_getElem hi] at hok; exact hok
          · refine clF_f (by simpa using hcl) o (List.mem_of_getElem? (i := k) ?_)
            rw [List.getElem?_take, if_pos (by omega)]; exact ho
        | j + 1, hx =>
          have := okF_ok r (i + 1) (by simp at hl; omega) (by rw [← List.drop_drop, hd]; rfl) h j x (by simpa using hx)
          rw [show i + (j + 1) = i + 1 + j by omega]; exact this
    · cases h
theorem ok_okF {L l : List Iss} : ∀ (r : List Iss) (i : Nat), (∀ j x, r[j]? = some x → (∃ w, L[i + j]? = some w ∧ OkI w x) ∧ ∀ k o, k < i + j → l[k]? = some o → ¬ Clash x o) → okF L l i r = true
  | [], _, _ => rfl
  | y :: r, i, h => by
    obtain ⟨⟨w, hw, hok⟩, hcl⟩ := h 0 y rfl
    unfold okF
    rw [if_pos (by rw [List.getD_eq_getElem?_getD, show L[i]? = some w from hw]; exact hok), if_neg (by
      rw [clF_no fun o ho => ?_]
      · decide
      · obtain ⟨k, hk⟩ := List.getElem?_of_mem ho
        rw [List.getElem?_take] at hk
        split at hk
        · exact hcl k o (by omega) hk
        · cases hk)]
    exact ok_okF r (i + 1) fun j x hx => by
      have := h (j + 1) x (by simpa using hx)
      rw [show i + (j + 1) = i + 1 + j by omega] at this; exact this
theorem okF_no {L l r : List Iss} {i : Nat} {x w : Iss} (hw : L[i]? = some w) (h : ¬ OkI w x) : okF L l i (x :: r) = false := by
  unfold okF; rw [List.getD_eq_getElem?_getD, hw, Option.getD_some, if_neg h]
theorem okF_cl {L l r : List Iss} {i : Nat} {x w : Iss} (hw : L[i]? = some w) (h : OkI w x) (hc : clF x () (l.take i) = true) : okF L l i (x :: r) = false := by
  unfold okF; rw [List.getD_eq_getElem?_getD, hw, Option.getD_some, if_pos h, if_pos hc]
theorem okF_go {L l r : List Iss} {i : Nat} {x w : Iss} (hw : L[i]? = some w) (h : OkI w x) (hc : clF x () (l.take i) = false) : okF L l i (x :: r) = okF L l (i + 1) r := by
  show (if OkI (L.getD i zIss) x then _ else _) = _
  rw [List.getD_eq_getElem?_getD, hw, Option.getD_some, if_pos h, if_neg (by rw [hc]; decide)]
theorem serR_ok {s : Ser} (h : serR s = 0) : SerOk s := by
  unfold serR at h
  split at h; cases h
  split at h; exact absurd h (by assumption)
  split at h; cases h
  split at h; cases h
  split at h; cases h
  rename_i h1 h2 h3 h4 h5
  split at h
  · rename_i h6
    have hl : s.iss.length ≤ (allI s.pat).length := by rw [List.length_take] at h5; omega
    have key := okF_ok s.iss 0 (by omega) rfl h6
    exact ⟨by omega, Classical.byContradiction h2, by omega, by omega, hl, fun i x hx => by have := (key i x hx).1; rw [Nat.zero_add] at this; exact this,
      fun i k x o hx hk ho => (key i x hx).2 k o (by omega) ho⟩
  · cases h
theorem ok_serR {s : Ser} (h : SerOk s) : serR s = 0 := by
  have hl := h.len; have hn := h.next; have ha := h.all; have hr := h.rcd
  unfold serR
  rw [if_neg (by omega), if_neg (by rw [h.pat0]; simp), if_neg (by omega), if_neg (by omega), if_neg (by rw [List.length_take]; omega), if_pos]
  exact ok_okF s.iss 0 fun j x hx => by
    rw [Nat.zero_add]; exact ⟨h.at' j x hx, fun k o hk ho => h.apart j k x o hx hk ho⟩
theorem serR_rng (s : Ser) : 0 ≤ serR s ∧ serR s ≤ 13 := by
  have := patR_rng s.pat
  unfold serR
  repeat' split
  all_goals omega
theorem serR_1 (s : Ser) : (-9223372036854775808 ≤ serR s) = True := eq_true (by have := serR_rng s; omega)
theorem serR_2 (s : Ser) : (serR s ≤ 9223372036854775807) = True := eq_true (by have := serR_rng s; omega)
def smallS (s : Ser) : Bool := decide (s.iss.length ≤ 140) && decide (s.pat.skip.length ≤ 20) && decide (s.pat.dbl.length ≤ 20)
/-- New -/
def newR (rcd : Int) (p : Pat) : Ser × Int := if rcd < 1 ∨ 9999 < rcd then (zSer, 2) else if ¬ patR p = 0 then (zSer, patR p) else (⟨rcd, p, 0, []⟩, 0)
/-- Expect -/
noncomputable def expR (s : Ser) (day : Int) : Ser × Int :=
  if untilR s.pat day ≤ s.next then (s, 0) else if 128 < untilR s.pat day then (zSer, 13)
  else (⟨s.rcd, s.pat, untilR s.pat day, s.iss ++ listR s.pat s.next (untilR s.pat day - s.next)⟩, 0)
/-- an issue with a number -/
def Numd (v n : Int) (x : Iss) : Prop := x.vol = v ∧ (x.num = n ∨ x.num ≤ n ∧ n ≤ x.last)
instance (v n : Int) (x : Iss) : Decidable (Numd v n x) := by unfold Numd; infer_instance
def fndI (v n : Int) : Int → List Iss → Int
  | _, [] => -1
  | i, x :: l => if Numd v n x then i else fndI v n (i + 1) l
/-- the first index of an issue that a test accepts -/
def idxI (p : Iss → Bool) : Int → List Iss → Int
  | _, [] => -1
  | i, x :: l => if p x = true then i else idxI p (i + 1) l
theorem idxI_any (p : Iss → Bool) : ∀ (l : List Iss) (i : Int), 0 ≤ i → decide (0 ≤ idxI p i l) = l.any p
  | [], i, _ => by simp [idxI]
  | x :: l, i, hi => by
    by_cases hp : p x = true
    · simp [idxI, hp, hi]
    · simp only [idxI, if_neg hp, List.any_cons, hp, Bool.false_or]
      exact idxI_any p l (i + 1) (by omega)
theorem idxI_fnd (v n : Int) : ∀ (l : List Iss) (i : Int), idxI (fun x => decide (Numd v n x)) i l = fndI v n i l
  | [], _ => rfl
  | x :: l, i => by unfold idxI fndI; simp only [decide_eq_true_eq]; rw [idxI_fnd v n l]
def fndR (l : List Iss) (v n : Int) : Int := fndI v n 0 l
theorem fndI_at {v n : Int} : ∀ {l : List Iss} {i : Int}, 0 ≤ i → (fndI v n i l = -1 ∧ ∀ x ∈ l, ¬ Numd v n x) ∨ ∃ (k : Nat) (x : Iss), fndI v n i l = i + k ∧ l[k]? = some x ∧ Numd v n x
  | [], i, _ => .inl ⟨rfl, fun x hx => by cases hx⟩
  | x :: l, i, hi => by
    unfold fndI
    split
    · exact .inr ⟨0, x, by simp, rfl, by assumption⟩
    · rename_i hx
      rcases fndI_at (v := v) (n := n) (l := l) (i := i + 1) (by omega) with ⟨h1, h2⟩ | ⟨k, y, h1, h2, h3⟩
      · exact .inl ⟨h1, fun y hy => by rcases List.mem_cons.1 hy with rfl | hy; exact hx; exact h2 y hy⟩
      · exact .inr ⟨k + 1, y, by rw [h1]; omega, by simpa using h2, h3⟩
theorem fndR_no {l : List Iss} {v n : Int} (h : fndR l v n < 0) : fndR l v n = -1 ∧ ∀ x ∈ l, ¬ Numd v n x := by
  rcases fndI_at (v := v) (n := n) (l := l) (i := 0) (by omega) with h1 | ⟨k, x, h1, _⟩
  · exact h1
  · unfold fndR at h; omega
theorem fndR_at {l : List Iss} {v n : Int} (h : ¬ fndR l v n < 0) : ∃ (k : Nat) (x : Iss), fndR l v n = (k : Int) ∧ k < l.length ∧ l[k]? = some x ∧ l.getD k zIss = x ∧ Numd v n x := by
  rcases fndI_at (v := v) (n := n) (l := l) (i := 0) (by omega) with h1 | ⟨k, x, h1, h2, h3⟩
  · unfold fndR at h; omega
  · exact ⟨k, x, by unfold fndR; omega, (List.getElem?_eq_some_iff.1 h2).1, h2, by rw [List.getD_eq_getElem?_getD, h2]; rfl, h3⟩
theorem fndR_rng (l : List Iss) (v n : Int) : -1 ≤ fndR l v n ∧ (fndR l v n < l.length) := by
  by_cases h : fndR l v n < 0
  · have := (fndR_no h).1; omega
  · obtain ⟨k, x, h1, h2, _⟩ := fndR_at h; omega
theorem fndR_pos {l : List Iss} {v n : Int} : 0 ≤ fndR l v n ↔ ∃ x ∈ l, Numd v n x := by
  constructor
  · intro h
    obtain ⟨k, x, _, _, h2, _, h3⟩ := fndR_at (show ¬ fndR l v n < 0 by omega)
    exact ⟨x, List.mem_of_getElem? h2, h3⟩
  · rintro ⟨x, hx, h⟩
    apply Classical.byContradiction
    intro hn
    exact (fndR_no (show fndR l v n < 0 by omega)).2 x hx h
/-- is there an issue with an item? -/
def hasIt (l : List Iss) (it : Int) : Bool := l.any fun x => decide (x.item = it)
def hasF' (it : Int) : Unit → List Iss → Bool
  | _, [] => false
  | _, x :: l => if x.item = it then true else hasF' it () l
theorem hasF'_eq (it : Int) : ∀ l : List Iss, hasF' it () l = hasIt l it
  | [] => rfl
  | x :: l => by
    unfold hasF' hasIt
    rw [List.any_cons]
    by_cases h : x.item = it
    · rw [if_pos h]; simp [h]
    · rw [if_neg h, hasF'_eq it l]; simp [h, hasIt]
def itemR (l : List Iss) (it : Int) : Int := if it < 1 ∨ 9999 < it then 2 else if hasIt l it = true then 7 else 0
theorem itemR_rng (l : List Iss) (it : Int) : 0 ≤ itemR l it ∧ itemR l it ≤ 7 := by unfold itemR; split; omega; split <;> omega
/-- Receive -/
def recR (s : Ser) (v n it : Int) : Ser × Int :=
  if fndR s.iss v n < 0 then (zSer, 9)
  else if hasI (s.iss.getD (fndR s.iss v n).toNat zIss) = true then (zSer, 12)
  else if ¬ itemR s.iss it = 0 then (zSer, itemR s.iss it)
  else (⟨s.rcd, s.pat, s.next, s.iss.set (fndR s.iss v n).toNat { s.iss.getD (fndR s.iss v n).toNat zIss with st := 2, item := it }⟩, 0)
theorem put_split {l : List Iss} {k : Nat} {y : Iss} (h : k < l.length) : l.set k y = l.take k ++ [y] ++ l.drop (k + 1) := by
  rw [List.set_eq_take_append_cons_drop, if_pos h]; simp
theorem rec_none {s : Ser} {v n it : Int} (h : fndR s.iss v n < 0) : recR s v n it = (zSer, 9) := if_pos h
theorem rec_at {s : Ser} {v n it : Int} {k : Nat} {x : Iss} (e : fndR s.iss v n = (k : Int)) (hg : s.iss.getD k zIss = x) :
    recR s v n it = if hasI x = true then (zSer, 12) else if ¬ itemR s.iss it = 0 then (zSer, itemR s.iss it) else (⟨s.rcd, s.pat, s.next, s.iss.set k { x with st := 2, item := it }⟩, 0) := by
  unfold recR; rw [if_neg (by omega), e, Int.toNat_natCast, hg]
/-- Miss -/
def missR (s : Ser) (v n : Int) : Ser × Int :=
  if fndR s.iss v n < 0 then (zSer, 9)
  else if ¬ (s.iss.getD (fndR s.iss v n).toNat zIss).st = 1 ∧ ¬ (s.iss.getD (fndR s.iss v n).toNat zIss).st = 3 then (zSer, 12)
  else (⟨s.rcd, s.pat, s.next, s.iss.set (fndR s.iss v n).toNat { s.iss.getD (fndR s.iss v n).toNat zIss with st := 5 }⟩, 0)
theorem miss_none {s : Ser} {v n : Int} (h : fndR s.iss v n < 0) : missR s v n = (zSer, 9) := if_pos h
theorem miss_at {s : Ser} {v n : Int} {k : Nat} {x : Iss} (e : fndR s.iss v n = (k : Int)) (hg : s.iss.getD k zIss = x) :
    missR s v n = if ¬ x.st = 1 ∧ ¬ x.st = 3 then (zSer, 12) else (⟨s.rcd, s.pat, s.next, s.iss.set k { x with st := 5 }⟩, 0) := by
  unfold missR; rw [if_neg (by omega), e, Int.toNat_natCast, hg]
/-- Claim -/
def Late (day wait : Int) (x : Iss) : Prop := x.st = 1 ∧ x.day < day ∧ max wait 0 < day - x.day
instance (day wait : Int) (x : Iss) : Decidable (Late day wait x) := by unfold Late; infer_instance
def clm (day wait : Int) (x : Iss) : Iss := if Late day wait x then { x with st := 3 } else x
def lateIx (day wait : Int) : Int → List Iss → List Int
  | _, [] => []
  | i, x :: l => if Late day wait x then i :: lateIx day wait (i + 1) l else lateIx day wait (i + 1) l
def clmF (day wait : Int) : Int × List Int × List Iss → List Iss → List Int × List Iss
  | (_, o, L), [] => (o, L)
  | (i, o, L), x :: l => if Late day wait x then clmF day wait (i + 1, o ++ [i], L.set i.toNat { x with st := 3 }) l else clmF day wait (i + 1, o, L) l
theorem clmF_gen (day wait : Int) : ∀ (l pre : List Iss) (o : List Int), clmF day wait ((pre.length : Int), o, pre ++ l) l = (o ++ lateIx day wait (pre.length : Int) l, pre ++ l.map (clm day wait))
  | [], pre, o => by simp [clmF, lateIx]
  | x :: l, pre, o => by
    unfold clmF lateIx
    rw [List.map_cons, clm]
    split
    · have := clmF_gen day wait l (pre ++ [{ x with st := 3 }]) (o ++ [(pre.length : Int)])
      simp only [List.length_append, List.length_singleton, List.append_assoc, List.singleton_append, Int.natCast_add, Int.natCast_one] at this
      rw [Int.toNat_natCast, List.set_append, if_neg (by omega), Nat.sub_self, List.set_cons_zero]
      exact this
    · have := clmF_gen day wait l (pre ++ [x]) o
      simp only [List.length_append, List.length_singleton, List.append_assoc, List.singleton_append, Int.natCast_add, Int.natCast_one] at this
      exact this
theorem clmF_eq (day wait : Int) (l : List Iss) : clmF day wait (0, [], l) l = (lateIx day wait 0 l, l.map (clm day wait)) := clmF_gen day wait l [] []
def clmG (day wait : Int) : Int × List Int × List Iss → List Iss → List Int × List Iss
  | (_, o, L), [] => (o, L)
  | (i, o, L), x :: l => if Late day wait x then clmG day wait (i + 1, o ++ [i], L ++ [clm day wait x]) l else clmG day wait (i + 1, o, L ++ [clm day wait x]) l
theorem clmG_gen (day wait : Int) : ∀ (l L : List Iss) (i : Int) (o : List Int), clmG day wait (i, o, L) l = (o ++ lateIx day wait i l, L ++ l.map (clm day wait))
  | [], L, i, o => by simp [clmG, lateIx]
  | x :: l, L, i, o => by
    unfold clmG lateIx
    split
    · rw [clmG_gen day wait l]; simp
    · rw [clmG_gen day wait l]; simp
theorem clmG_eq (day wait : Int) (l : List Iss) : clmG day wait (0, [], []) l = (lateIx day wait 0 l, l.map (clm day wait)) := by rw [clmG_gen]; rfl
theorem drop_at {L l : List Iss} {k : Nat} {x : Iss} (h : L.drop k = l.drop k) (hx : l[k]? = some x) : L[k]? = some x := by
  have h0 : (L.drop k)[0]? = (l.drop k)[0]? := by rw [h]
  rw [List.getElem?_drop, List.getElem?_drop] at h0
  rw [← hx]; exact h0
theorem drop_one {L l : List Iss} {k : Nat} (h : L.drop k = l.drop k) : L.drop (k + 1) = l.drop (k + 1) := by rw [← List.drop_drop, ← List.drop_drop, h]
theorem drop_set {L l : List Iss} {k : Nat} {y : Iss} (h : L.drop k = l.drop k) : (L.set k y).drop (k + 1) = l.drop (k + 1) := by
  rw [List.drop_set_of_lt (by omega)]; exact drop_one h
theorem clm_done (day wait : Int) (l : List Iss) {k : Nat} {x : Iss} (h : l[k]? = some x) (y : Iss) : (((l.take k).map (clm day wait)) ++ l.drop k).set k y = ((l.take k).map (clm day wait)) ++ y :: l.drop (k + 1) := by
  have hk := (List.getElem?_eq_some_iff.1 h).1
  have : (l.take k).length = k := by rw [List.length_take]; omega
  rw [List.set_append, if_neg (by simp; omega), List.length_map, this, Nat.sub_self, List.drop_eq_getElem_cons hk, List.set_cons_zero]
def claimR (s : Ser) (day wait : Int) : Ser × List Int := (⟨s.rcd, s.pat, s.next, s.iss.map (clm day wait)⟩, lateIx day wait 0 s.iss)
/-- how many issues of a volume there are, how many have arrived and are not bound, how many are neither there nor missing -/
def bndF (v : Int) : Int × Int × Int → List Iss → Int × Int × Int
  | c, [] => c
  | (a, b, c), x :: l => if x.vol = v then if x.st = 2 then bndF v (a + 1, b + 1, c) l else if x.st = 5 then bndF v (a + 1, b, c) l else bndF v (a + 1, b, c + 1) l else bndF v (a, b, c) l
def bnd (v it : Int) (x : Iss) : Iss := if x.vol = v ∧ x.st = 2 then { x with st := 4, item := it } else x
/-- Bind -/
def bindR (s : Ser) (v it : Int) : Ser × Int :=
  if (bndF v (0, 0, 0) s.iss).1 = 0 then (zSer, 9)
  else if (fndR s.iss v s.pat.per < 0 ∨ 0 < (bndF v (0, 0, 0) s.iss).2.2) ∨ (bndF v (0, 0, 0) s.iss).2.1 = 0 then (zSer, 12)
  else if ¬ itemR s.iss it = 0 then (zSer, itemR s.iss it)
  else (⟨s.rcd, s.pat, s.next, s.iss.map (bnd v it)⟩, 0)
/-- is a volume held? -/
def heldF (v : Int) : Unit → List Iss → Bool
  | _, [] => true
  | _, x :: l => if x.vol = v ∧ hasI x = false then false else heldF v () l
def heldB (l : List Iss) (per v : Int) : Bool := heldF v () l && decide (0 ≤ fndR l v per)
/-- how many issues of a volume there are, and how many of them have one of two states -/
def cntF (v a b : Int) : Int × Int → List Iss → Int × Int
  | c, [] => c
  | (p, q), x :: l => if x.vol = v then if x.st = a ∨ x.st = b then cntF v a b (p + 1, q + 1) l else cntF v a b (p + 1, q) l else cntF v a b (p, q) l
theorem cntF_gen (v a b : Int) : ∀ (l : List Iss) (p q : Int), cntF v a b (p, q) l = (p + (l.countP fun x => decide (x.vol = v) : Nat), q + (l.countP fun x => decide (x.vol = v ∧ (x.st = a ∨ x.st = b)) : Nat))
  | [], p, q => by simp [cntF]
  | x :: l, p, q => by
    unfold cntF
    by_cases h1 : x.vol = v
    · by_cases h2 : x.st = a ∨ x.st = b
      · rw [if_pos h1, if_pos h2, cntF_gen v a b l]
        simp only [List.countP_cons, h1, h2, decide_true, and_self, if_true, Prod.mk.injEq]; omega
      · rw [if_pos h1, if_neg h2, cntF_gen v a b l]
        simp only [List.countP_cons, h1, h2, decide_true, and_false, decide_false, if_true, Prod.mk.injEq, Bool.false_eq_true, if_false]; omega
    · rw [if_neg h1, cntF_gen v a b l]
      simp [List.countP_cons, h1]
theorem heldF_iff (v : Int) : ∀ l : List Iss, heldF v () l = true ↔ ∀ x ∈ l, x.vol = v → x.st = 2 ∨ x.st = 4
  | [] => by simp [heldF]
  | x :: l => by
    unfold heldF
    by_cases h : x.vol = v ∧ hasI x = false
    · rw [if_pos h]
      have : ¬ (x.st = 2 ∨ x.st = 4) := fun hh => by rw [hasI_t hh] at h; exact absurd h.2 (by decide)
      simp only [Bool.false_eq_true, List.mem_cons, forall_eq_or_imp, false_iff]
      exact fun hh => this (hh.1 h.1)
    · rw [if_neg h, heldF_iff v l]
      simp only [List.mem_cons, forall_eq_or_imp]
      refine ⟨fun hh => ⟨fun hv => Classical.byContradiction fun hn => h ⟨hv, hasI_f hn⟩, hh⟩, fun hh => hh.2⟩
theorem countP_same {p q : Iss → Bool} : ∀ {l : List Iss}, (∀ x ∈ l, q x = true → p x = true) → (l.countP p = l.countP q ↔ ∀ x ∈ l, p x = true → q x = true)
  | [], _ => by simp
  | x :: l, h => by
    have ih := countP_same (p := p) (q := q) (l := l) fun y hy => h y (by simp [hy])
    have hle : l.countP q ≤ l.countP p := List.countP_mono_left fun y hy hq => h y (by simp [hy]) hq
    have hx := h x (by simp)
    simp only [List.countP_cons, List.mem_cons, forall_eq_or_imp]
    cases hp : p x <;> cases hq : q x
    · simp [ih]
    · rw [hp] at hx; exact absurd (hx hq) (by decide)
    · simp; omega
    · simp [ih]
theorem held_cnt (v : Int) (l : List Iss) : decide ((cntF v 2 4 (0, 0) l).1 = (cntF v 2 4 (0, 0) l).2) = heldF v () l := by
  rw [Bool.eq_iff_iff, decide_eq_true_iff, heldF_iff, cntF_gen]
  simp only [Int.zero_add, Int.natCast_inj]
  rw [countP_same fun x _ hx => by simp only [decide_eq_true_eq] at hx ⊢; exact hx.1]
  simp only [decide_eq_true_eq]
  exact ⟨fun h x hx hv => (h x hx hv).2, fun h x hx hv => ⟨hv, h x hx hv⟩⟩
theorem bndF_gen (v : Int) : ∀ (l : List Iss) (a b c : Int), bndF v (a, b, c) l = (a + (l.countP fun x => decide (x.vol = v) : Nat), b + (l.countP fun x => decide (x.vol = v ∧ x.st = 2) : Nat), c + (l.countP fun x => decide (x.vol = v ∧ ¬ x.st = 2 ∧ ¬ x.st = 5) : Nat))
  | [], a, b, c => by simp [bndF]
  | x :: l, a, b, c => by
    unfold bndF
    by_cases h1 : x.vol = v
    · by_cases h2 : x.st = 2
      · rw [if_pos h1, if_pos h2, bndF_gen v l]
        simp only [List.countP_cons, h1, h2, decide_true, and_self, if_true, Prod.mk.injEq, not_true_eq_false, false_and, and_false, decide_false, Bool.false_eq_true, if_false]; omega
      · by_cases h3 : x.st = 5
        · rw [if_pos h1, if_neg h2, if_pos h3, bndF_gen v l]
          simp only [List.countP_cons, h1, h3, decide_true, if_true, Prod.mk.injEq, not_true_eq_false, and_false, decide_false, Bool.false_eq_true, if_false, show ¬ (5 : Int) = 2 by decide]; omega
        · rw [if_pos h1, if_neg h2, if_neg h3, bndF_gen v l]
          simp only [List.countP_cons, h1, h2, h3, decide_true, and_self, if_true, Prod.mk.injEq, not_false_eq_true, and_false, decide_false, Bool.false_eq_true, if_false]; omega
    · rw [if_neg h1, bndF_gen v l]
      simp [List.countP_cons, h1]
theorem countP_cut {p q r : Iss → Bool} : ∀ {l : List Iss}, (∀ x ∈ l, p x = (q x || r x)) → (∀ x ∈ l, ¬ (q x = true ∧ r x = true)) → l.countP p = l.countP q + l.countP r
  | [], _, _ => rfl
  | x :: l, h1, h2 => by
    have ih := countP_cut (p := p) (q := q) (r := r) (l := l) (fun y hy => h1 y (by simp [hy])) (fun y hy => h2 y (by simp [hy]))
    have a := h1 x (by simp); have b := h2 x (by simp)
    simp only [List.countP_cons]
    cases hq : q x <;> cases hr : r x <;> rw [hq, hr] at a <;> simp at a <;> simp [a, ih, hq, hr] at b ⊢ <;> omega
theorem bnd_cnt1 (v : Int) (l : List Iss) : (bndF v (0, 0, 0) l).1 = (cntF v 2 5 (0, 0) l).1 := by rw [bndF_gen, cntF_gen]
theorem bnd_cnt2 (v : Int) (l : List Iss) : (bndF v (0, 0, 0) l).2.1 = (cntF v 2 2 (0, 0) l).2 := by
  rw [bndF_gen, cntF_gen]; simp only [or_self]
theorem bnd_cnt3 (v : Int) (l : List Iss) : (bndF v (0, 0, 0) l).2.2 = (cntF v 2 5 (0, 0) l).1 - (cntF v 2 5 (0, 0) l).2 := by
  rw [bndF_gen, cntF_gen]
  have := countP_cut (l := l) (p := fun x => decide (x.vol = v)) (q := fun x => decide (x.vol = v ∧ (x.st = 2 ∨ x.st = 5))) (r := fun x => decide (x.vol = v ∧ ¬ x.st = 2 ∧ ¬ x.st = 5))
    (fun x _ => by rw [Bool.eq_iff_iff]; simp only [Bool.or_eq_true, decide_eq_true_eq]; omega) (fun x _ => by simp only [decide_eq_true_eq]; omega)
  simp only; omega
theorem bnd_rng (v : Int) (l : List Iss) : 0 ≤ (bndF v (0, 0, 0) l).2.2 := by rw [bndF_gen]; simp
def bndL (v it : Int) : Int × List Iss → List Iss → List Iss
  | (_, L), [] => L
  | (i, L), x :: l => if x.vol = v ∧ x.st = 2 then bndL v it (i + 1, L.set i.toNat { x with st := 4, item := it }) l else bndL v it (i + 1, L) l
theorem bndL_gen (v it : Int) : ∀ (l pre : List Iss), bndL v it ((pre.length : Int), pre ++ l) l = pre ++ l.map (bnd v it)
  | [], pre => by simp [bndL]
  | x :: l, pre => by
    unfold bndL
    rw [List.map_cons, bnd]
    split
    · have := bndL_gen v it l (pre ++ [{ x with st := 4, item := it }])
      simp only [List.length_append, List.length_singleton, List.append_assoc, List.singleton_append, Int.natCast_add, Int.natCast_one] at this
      rw [Int.toNat_natCast, List.set_append, if_neg (by omega), Nat.sub_self, List.set_cons_zero]
      exact this
    · have := bndL_gen v it l (pre ++ [x])
      simp only [List.length_append, List.length_singleton, List.append_assoc, List.singleton_append, Int.natCast_add, Int.natCast_one] at this
      exact this
theorem bndL_eq (v it : Int) (l : List Iss) : bndL v it (0, l) l = l.map (bnd v it) := bndL_gen v it l []
def bndG (v it : Int) : List Iss → List Iss → List Iss
  | L, [] => L
  | L, x :: l => bndG v it (L ++ [bnd v it x]) l
theorem bndG_eq (v it : Int) : ∀ (l L : List Iss), bndG v it L l = L ++ l.map (bnd v it)
  | [], L => by simp [bndG]
  | x :: l, L => by unfold bndG; rw [bndG_eq v it l]; simp
def appF : List Iss → List Iss → List Iss
  | o, [] => o
  | o, x :: l => appF (o ++ [x]) l
theorem appF_eq : ∀ (l o : List Iss), appF o l = o ++ l
  | [], o => by simp [appF]
  | x :: l, o => by unfold appF; rw [appF_eq l]; simp
/-- one more volume that is held -/
def addS (o : List Spn) (v : Int) : List Spn :=
  match o.getLast? with
  | some y => if y.til + 1 = v then o.dropLast ++ [⟨y.fr, v⟩] else o ++ [⟨v, v⟩]
  | none => o ++ [⟨v, v⟩]
/-- Held: 'l': all issues; the index of the next one; the volumes found -/
def hldF (l : List Iss) (per : Int) : Nat × List Spn → List Iss → List Spn
  | (_, o), [] => o
  | (i, o), x :: r => if (0 < i ∧ (l.getD (i - 1) zIss).vol = x.vol) ∨ heldB l per x.vol = false then hldF l per (i + 1, o) r else hldF l per (i + 1, addS o x.vol) r
def heldR (s : Ser) : List Spn := hldF s.iss s.pat.per (0, []) s.iss
/-- Gaps -/
def gapF : Int → List Iss → List Int
  | _, [] => []
  | i, x :: l => if x.st = 5 ∨ x.st = 3 then i :: gapF (i + 1) l else gapF (i + 1) l
def gapsF : Int × List Int → List Iss → List Int
  | (_, o), [] => o
  | (i, o), x :: l => if x.st = 5 ∨ x.st = 3 then gapsF (i + 1, o ++ [i]) l else gapsF (i + 1, o) l
theorem gapsF_gen : ∀ (l : List Iss) (i : Int) (o : List Int), gapsF (i, o) l = o ++ gapF i l
  | [], _, _ => by simp [gapsF, gapF]
  | x :: l, i, o => by
    unfold gapsF gapF
    split
    · rw [gapsF_gen l]; simp
    · rw [gapsF_gen l]
def gapsR (s : Ser) : List Int := gapF 0 s.iss
theorem gapsF_eq (s : Ser) : gapsF (0, []) s.iss = gapsR s := by rw [gapsF_gen]; rfl
end Pl

/- Serials: what stays valid. -/
namespace Pl
open Go Ab
set_option linter.unusedVariables false
set_option linter.unusedSimpArgs false
theorem SerOk.upd {s : Ser} (h : SerOk s) {l : List Iss} (hlen : l.length = s.iss.length)
    (hat : ∀ (i : Nat) (x y : Iss), s.iss[i]? = some x → l[i]? = some y → (y.vol = x.vol ∧ y.num = x.num ∧ y.last = x.last ∧ y.day = x.day) ∧ (1 ≤ y.st ∧ y.st ≤ 5) ∧ ((y.st = 2 ∨ y.st = 4) ∧ 1 ≤ y.item ∧ y.item ≤ 9999 ∨ ¬ (y.st = 2 ∨ y.st = 4) ∧ y.item = 0))
    (hap : ∀ (i k : Nat) (x o : Iss), l[i]? = some x → k < i → l[k]? = some o → ¬ Clash x o) : SerOk ⟨s.rcd, s.pat, s.next, l⟩ where
  rcd := h.rcd
  pat0 := h.pat0
  len := by show l.length ≤ 128; rw [hlen]; exact h.len
  next := by show s.next = (l.length : Int); rw [hlen]; exact h.next
  all := by show l.length ≤ _; rw [hlen]; exact h.all
  at' := fun i y hy => by
    have hi : i < s.iss.length := by rw [← hlen]; exact (List.getElem?_eq_some_iff.1 hy).1
    obtain ⟨w, hw, hok⟩ := h.at' i s.iss[i] (by simp [hi])
    obtain ⟨⟨h1, h2, h3, h4⟩, h5⟩ := hat i s.iss[i] y (by simp [hi]) hy
    obtain ⟨⟨k1, k2, k3, k4⟩, _⟩ := hok
    exact ⟨w, hw, ⟨by omega, by omega, by omega, by omega⟩, h5⟩
  apart := hap
theorem SerOk.iss {s : Ser} (h : SerOk s) {i : Nat} {x : Iss} (hx : s.iss[i]? = some x) : (1 ≤ x.st ∧ x.st ≤ 5) ∧ ((x.st = 2 ∨ x.st = 4) ∧ 1 ≤ x.item ∧ x.item ≤ 9999 ∨ ¬ (x.st = 2 ∨ x.st = 4) ∧ x.item = 0) := by
  obtain ⟨w, _, hok⟩ := h.at' i x hx; exact hok.2
theorem SerOk.rng {s : Ser} (h : SerOk s) {x : Iss} (hx : x ∈ s.iss) : (1 ≤ x.vol ∧ x.vol ≤ 9999) ∧ (1 ≤ x.num ∧ x.num ≤ 366) ∧ (0 ≤ x.last ∧ x.last ≤ 367) ∧ (0 ≤ x.day ∧ x.day ≤ 109572) ∧ (1 ≤ x.st ∧ x.st ≤ 5) ∧ (0 ≤ x.item ∧ x.item ≤ 9999) := by
  obtain ⟨i, hi⟩ := List.getElem?_of_mem hx
  obtain ⟨w, hw, hok⟩ := h.at' i x hi
  have hr := allI_rng h.pat (List.mem_of_getElem? hw)
  unfold IssRng at hr
  obtain ⟨⟨k1, k2, k3, k4⟩, k5, k6⟩ := hok
  omega
theorem known_no {l : List Iss} {it : Int} (h : hasIt l it = false) {x : Iss} (hx : x ∈ l) : x.item ≠ it := by
  unfold hasIt at h
  rw [List.any_eq_false] at h
  simpa using h x hx
theorem item_ok {l : List Iss} {it : Int} (h : itemR l it = 0) : (1 ≤ it ∧ it ≤ 9999) ∧ hasIt l it = false := by
  unfold itemR at h
  split at h; cases h
  split at h; cases h
  exact ⟨by omega, by simpa using ‹¬ hasIt l it = true›⟩
theorem clash_no {x o : Iss} (h : x.item = 0 ∨ o.item = 0 ∨ x.item ≠ o.item) : ¬ Clash x o := by unfold Clash; omega
def strip (x : Iss) : Iss := { x with st := 0, item := 0 }
def keptB (a b : Ser) : Bool := decide (a.iss.length = b.iss.length) && decide (a.next = b.next) && decide (a.iss.map strip = b.iss.map strip)
theorem kept_of {s : Ser} {l : List Iss} (h : l.map strip = s.iss.map strip) : keptB ⟨s.rcd, s.pat, s.next, l⟩ s = true := by
  have : l.length = s.iss.length := by simpa using congrArg List.length h
  simp [keptB, h, this]
theorem strip_eq (x y : Iss) : strip x = strip y ↔ ((x.vol = y.vol ∧ x.num = y.num) ∧ x.last = y.last) ∧ x.day = y.day := by
  unfold strip; simp [and_assoc]
def kepF : List Iss → List Iss → Bool
  | _, [] => true
  | [], _ :: _ => false
  | y :: b, x :: a => if strip x = strip y then kepF b a else false
theorem kepF_eq : ∀ (a b : List Iss), a.length = b.length → kepF b a = decide (a.map strip = b.map strip)
  | [], [], _ => by simp [kepF]
  | x :: a, y :: b, h => by
    rw [kepF, kepF_eq a b (by simpa using h)]
    by_cases hxy : strip x = strip y
    · simp [hxy]
    · simp [hxy]
theorem kept_not {a b : Ser} (h : ¬ a.iss.length = b.iss.length ∨ ¬ a.next = b.next) : keptB a b = false := by
  unfold keptB; rcases h with h | h <;> simp [h]
theorem kept_F {a b : Ser} (h1 : a.iss.length = b.iss.length) (h2 : a.next = b.next) : keptB a b = kepF b.iss a.iss := by
  unfold keptB; rw [kepF_eq _ _ h1]; simp [h1, h2]
theorem strip_set {l : List Iss} {k : Nat} {x y : Iss} (h : l[k]? = some x) (hy : strip y = strip x) : (l.set k y).map strip = l.map strip := by
  rw [List.map_set, hy]
  apply List.ext_getElem?
  intro i
  rw [List.getElem?_set]
  split
  · rename_i hi; subst hi
    have hk := (List.getElem?_eq_some_iff.1 h).1
    have e : l[k] = x := (List.getElem?_eq_some_iff.1 h).2
    simp [hk, e]
  · rfl
theorem set_get2 {l : List Iss} {k i : Nat} {x y z : Iss} (h : l[k]? = some x) (hz : (l.set k y)[i]? = some z) : (i = k ∧ z = y) ∨ (i ≠ k ∧ l[i]? = some z) := by
  rw [List.getElem?_set] at hz
  split at hz
  · rename_i hi; subst hi
    split at hz
    · cases hz; exact .inl ⟨rfl, rfl⟩
    · cases hz
  · exact .inr ⟨fun e => by omega, hz⟩
theorem SerOk.set {s : Ser} (h : SerOk s) {k : Nat} {x y : Iss} (hx : s.iss[k]? = some x) (hv : y.vol = x.vol ∧ y.num = x.num ∧ y.last = x.last ∧ y.day = x.day) (hs : (1 ≤ y.st ∧ y.st ≤ 5) ∧ ((y.st = 2 ∨ y.st = 4) ∧ 1 ≤ y.item ∧ y.item ≤ 9999 ∨ ¬ (y.st = 2 ∨ y.st = 4) ∧ y.item = 0))
    (hi : ∀ o ∈ s.iss, y.item = 0 ∨ y.item ≠ o.item) : SerOk ⟨s.rcd, s.pat, s.next, s.iss.set k y⟩ := by
  refine h.upd (by simp) (fun i a b ha hb => ?_) (fun i j a o ha hj ho => ?_)
  · rcases set_get2 hx hb with ⟨rfl, rfl⟩ | ⟨_, hb⟩
    · rw [hx] at ha; cases ha; exact ⟨hv, hs⟩
    · rw [ha] at hb; cases hb; exact ⟨⟨rfl, rfl, rfl, rfl⟩, h.iss ha⟩
  · rcases set_get2 hx ha with ⟨e1, e2⟩ | ⟨_, ha'⟩
    · rcases set_get2 hx ho with ⟨e3, _⟩ | ⟨_, ho'⟩
      · omega
      · have := hi o (List.mem_of_getElem? ho'); rw [e2]; exact clash_no (by omega)
    · rcases set_get2 hx ho with ⟨_, e2⟩ | ⟨_, ho'⟩
      · have := hi a (List.mem_of_getElem? ha'); rw [e2]; exact clash_no (by omega)
      · exact h.apart i j a o ha' hj ho'
theorem rec_stay {s : Ser} (h : SerOk s) {v n it : Int} (he : (recR s v n it).2 = 0) : SerOk (recR s v n it).1 ∧ keptB (recR s v n it).1 s = true := by
  unfold recR at he ⊢
  split; · rename_i h1; rw [if_pos h1] at he; cases he
  rename_i h1; rw [if_neg h1] at he
  split; · rename_i h2; rw [if_pos h2] at he; cases he
  rename_i h2; rw [if_neg h2] at he
  split; · rename_i h3; rw [if_pos h3] at he; exact absurd he h3
  rename_i h3
  obtain ⟨k, x, e, hk, hx, hg, hnum⟩ := fndR_at h1
  obtain ⟨hi, hkn⟩ := item_ok (Classical.byContradiction h3)
  rw [e, Int.toNat_natCast, hg]
  exact ⟨h.set hx ⟨rfl, rfl, rfl, rfl⟩ ⟨⟨by simp, by simp⟩, .inl ⟨.inl rfl, hi⟩⟩ fun o ho => .inr fun e => known_no hkn ho e.symm, kept_of (strip_set hx rfl)⟩
theorem miss_stay {s : Ser} (h : SerOk s) {v n : Int} (he : (missR s v n).2 = 0) : SerOk (missR s v n).1 ∧ keptB (missR s v n).1 s = true := by
  unfold missR at he ⊢
  split; · rename_i h1; rw [if_pos h1] at he; cases he
  rename_i h1; rw [if_neg h1] at he
  split; · rename_i h2; rw [if_pos h2] at he; cases he
  rename_i h2
  obtain ⟨k, x, e, hk, hx, hg, hnum⟩ := fndR_at h1
  rw [e, Int.toNat_natCast, hg] at h2 ⊢
  have h0 : x.item = 0 := by have := h.iss hx; omega
  exact ⟨h.set hx ⟨rfl, rfl, rfl, rfl⟩ ⟨⟨by simp, by simp⟩, .inr ⟨by simp, h0⟩⟩ fun o ho => .inl h0, kept_of (strip_set hx rfl)⟩
theorem map_at {f : Iss → Iss} {l : List Iss} {i : Nat} {y : Iss} (h : (l.map f)[i]? = some y) : ∃ x, l[i]? = some x ∧ f x = y := by
  rw [List.getElem?_map] at h
  cases hx : l[i]? with
  | none => rw [hx] at h; cases h
  | some x => rw [hx] at h; exact ⟨x, rfl, by simpa using h⟩
theorem clm_strip (day wait : Int) (l : List Iss) : (l.map (clm day wait)).map strip = l.map strip := by
  rw [List.map_map]; congr 1; funext x; simp only [Function.comp, clm]; split <;> rfl
theorem clm_as (day wait : Int) (x : Iss) : (clm day wait x).item = x.item ∧ (clm day wait x).vol = x.vol ∧ ((clm day wait x).st = x.st ∨ x.st = 1 ∧ (clm day wait x).st = 3) := by
  unfold clm
  split
  · rename_i h; exact ⟨rfl, rfl, .inr ⟨h.1, rfl⟩⟩
  · exact ⟨rfl, rfl, .inl rfl⟩
theorem claim_stay {s : Ser} (h : SerOk s) (day wait : Int) : SerOk (claimR s day wait).1 ∧ keptB (claimR s day wait).1 s = true := by
  refine ⟨h.upd (by simp) (fun i a b ha hb => ?_) (fun i j a o ha hj ho => ?_), kept_of (clm_strip _ _ _)⟩
  · obtain ⟨a', ha', rfl⟩ := map_at hb
    rw [ha] at ha'; cases ha'
    have hi := h.iss ha
    unfold clm
    split
    · rename_i hl; unfold Late at hl; refine ⟨⟨rfl, rfl, rfl, rfl⟩, ⟨by simp, by simp⟩, .inr ⟨by simp, ?_⟩⟩; show a.item = 0; omega
    · exact ⟨⟨rfl, rfl, rfl, rfl⟩, hi⟩
  · obtain ⟨a', ha', rfl⟩ := map_at ha
    obtain ⟨o', ho', rfl⟩ := map_at ho
    have hc := h.apart i j a' o' ha' hj ho'
    obtain ⟨a1, a2, a3⟩ := clm_as day wait a'
    obtain ⟨o1, o2, o3⟩ := clm_as day wait o'
    unfold Clash at hc ⊢
    rw [a1, a2, o1, o2]
    omega
theorem bnd_strip (v it : Int) (l : List Iss) : (l.map (bnd v it)).map strip = l.map strip := by
  rw [List.map_map]; congr 1; funext x; simp only [Function.comp, bnd]; split <;> rfl
theorem bnd_as (v it : Int) (x : Iss) : (bnd v it x).vol = x.vol ∧ (((bnd v it x).st = x.st ∧ (bnd v it x).item = x.item) ∨ (x.vol = v ∧ x.st = 2) ∧ (bnd v it x).st = 4 ∧ (bnd v it x).item = it) := by
  unfold bnd
  split
  · rename_i h; exact ⟨rfl, .inr ⟨h, rfl, rfl⟩⟩
  · exact ⟨rfl, .inl ⟨rfl, rfl⟩⟩
theorem bind_stay {s : Ser} (h : SerOk s) {v it : Int} (he : (bindR s v it).2 = 0) : SerOk (bindR s v it).1 ∧ keptB (bindR s v it).1 s = true := by
  unfold bindR at he ⊢
  split; · rename_i h1; rw [if_pos h1] at he; cases he
  rename_i h1; rw [if_neg h1] at he
  split; · rename_i h2; rw [if_pos h2] at he; cases he
  rename_i h2; rw [if_neg h2] at he
  split; · rename_i h3; rw [if_pos h3] at he; exact absurd he h3
  rename_i h3
  obtain ⟨hi, hkn⟩ := item_ok (Classical.byContradiction h3)
  refine ⟨h.upd (by simp) (fun i a b ha hb => ?_) (fun i j a o ha hj ho => ?_), kept_of (bnd_strip _ _ _)⟩
  · obtain ⟨a', ha', rfl⟩ := map_at hb
    rw [ha] at ha'; cases ha'
    have hi' := h.iss ha
    unfold bnd
    split
    · exact ⟨⟨rfl, rfl, rfl, rfl⟩, ⟨by simp, by simp⟩, .inl ⟨.inr rfl, hi⟩⟩
    · exact ⟨⟨rfl, rfl, rfl, rfl⟩, hi'⟩
  · obtain ⟨a', ha', rfl⟩ := map_at ha
    obtain ⟨o', ho', rfl⟩ := map_at ho
    have hc := h.apart i j a' o' ha' hj ho'
    have k1 := known_no hkn (List.mem_of_getElem? ha'); have k2 := known_no hkn (List.mem_of_getElem? ho')
    obtain ⟨a1, a2⟩ := bnd_as v it a'
    obtain ⟨o1, o2⟩ := bnd_as v it o'
    unfold Clash at hc ⊢
    rw [a1, o1]
    omega
theorem late_ix {day wait : Int} : ∀ {l : List Iss} {i : Int} {j : Int}, j ∈ lateIx day wait i l → ∃ (k : Nat) (x : Iss), j = i + k ∧ l[k]? = some x ∧ Late day wait x
  | [], _, _, h => by cases h
  | x :: l, i, j, h => by
    unfold lateIx at h
    split at h
    · rcases List.mem_cons.1 h with rfl | h
      · exact ⟨0, x, by simp, rfl, by assumption⟩
      · obtain ⟨k, y, h1, h2, h3⟩ := late_ix h; exact ⟨k + 1, y, by rw [h1]; omega, by simpa using h2, h3⟩
    · obtain ⟨k, y, h1, h2, h3⟩ := late_ix h; exact ⟨k + 1, y, by rw [h1]; omega, by simpa using h2, h3⟩
theorem late_none {day wait : Int} : ∀ (l : List Iss) (i : Int), lateIx day wait i (l.map (clm day wait)) = []
  | [], _ => rfl
  | x :: l, i => by
    rw [List.map_cons, lateIx, late_none l, if_neg]
    unfold clm
    split
    · unfold Late; simp
    · assumption
theorem clm_no {day wait : Int} {l : List Iss} {x : Iss} (h : x ∈ l.map (clm day wait)) : ¬ Late day wait x := by
  obtain ⟨y, _, rfl⟩ := List.mem_map.1 h
  unfold clm
  split
  · unfold Late; simp
  · assumption
theorem lateIx_len (day wait : Int) : ∀ (l : List Iss) (i : Int), (lateIx day wait i l).length ≤ l.length
  | [], _ => by simp [lateIx]
  | x :: l, i => by
    have := lateIx_len day wait l (i + 1)
    unfold lateIx
    split
    · simp only [List.length_cons]; omega
    · simp only [List.length_cons]; omega
/-! Expect -/
theorem until_mono (p : Pat) {a b : Int} (h : a ≤ b) : untilR p a ≤ untilR p b := by
  unfold untilR
  have : ∀ l : List Iss, (l.takeWhile fun x => decide (x.day ≤ a)).length ≤ (l.takeWhile fun x => decide (x.day ≤ b)).length := by
    intro l
    induction l with
    | nil => simp
    | cons x l ih =>
      rw [List.takeWhile_cons, List.takeWhile_cons]
      by_cases hx : x.day ≤ a
      · rw [if_pos (by simpa using hx), if_pos (by simp; omega)]; simp; exact ih
      · rw [if_neg (by simpa using hx)]; simp
  have := this (allI p); omega
theorem until_le (p : Pat) (d : Int) : untilR p d ≤ ((allI p).length : Int) := by
  unfold untilR
  have : ∀ l : List Iss, (l.takeWhile fun x => decide (x.day ≤ d)).length ≤ l.length := fun l => (List.takeWhile_prefix _).length_le
  have := this (allI p); omega
theorem while_take {α : Type} (q : α → Bool) : ∀ (l : List α) (n : Nat), (l.take n).takeWhile q = (l.takeWhile q).take n
  | [], _ => by simp
  | x :: l, 0 => by simp
  | x :: l, n + 1 => by
    rw [List.take_succ_cons, List.takeWhile_cons, List.takeWhile_cons]
    split
    · rw [List.take_succ_cons, while_take q l n]
    · simp
theorem while_len {α : Type} (q : α → Bool) : ∀ (l : List α), l.takeWhile q = l.take (l.takeWhile q).length
  | [] => by simp
  | x :: l => by
    rw [List.takeWhile_cons]
    split
    · rw [List.length_cons, List.take_succ_cons, ← while_len q l]
    · simp
theorem while_eq {α : Type} {q r : α → Bool} : ∀ {l : List α}, (∀ x ∈ l, q x = r x) → l.takeWhile q = l.takeWhile r
  | [], _ => rfl
  | x :: l, h => by rw [List.takeWhile_cons, List.takeWhile_cons, h x (by simp), while_eq (l := l) fun y hy => h y (by simp [hy])]
theorem iss_129 {p : Pat} (hp : PatOk p) (day : Int) : issR p 129 (min day 109572) = (allI p).take (min 129 (untilR p day).toNat) := by
  unfold issR untilR
  rw [while_take, show (min (129 : Int) 5000).toNat = 129 by decide]
  rw [while_eq (r := fun x => decide (x.day ≤ day)) fun x hx => by have := allI_day hp x hx; exact decide_eq_decide.2 (by omega)]
  rw [Int.toNat_natCast]
  conv => lhs; rw [while_len]
  rw [List.take_take]
/-- are the issues those of the pattern? -/
noncomputable def issB (s : Ser) : Bool := decide ((s.iss.length : Int) = s.next) && decide ((((allI s.pat).take s.iss.length).length : Int) = s.next) && okF (allI s.pat) s.iss 0 s.iss
theorem iss_next {s : Ser} (hp : PatOk s.pat) (hn : 0 ≤ s.next ∧ s.next ≤ 5000) {L : List Iss} (hL : issR s.pat s.next 109572 = L) : L = (allI s.pat).take s.next.toNat ∧ ((s.iss.length : Int) = s.next → L.length = ((allI s.pat).take s.iss.length).length) := by
  have e : L = (allI s.pat).take s.next.toNat := by
    rw [← hL]
    unfold issR
    rw [takeWhile_all (fun x hx => by simpa using allI_day hp x (List.mem_of_mem_take hx)), show (min s.next 5000).toNat = s.next.toNat by omega]
  exact ⟨e, fun h => by rw [e]; congr 2; omega⟩
theorem iss_not {s : Ser} (h : ¬ (s.iss.length : Int) = s.next ∨ ¬ (((allI s.pat).take s.iss.length).length : Int) = s.next) : issB s = false := by
  unfold issB
  rcases h with h | h
  · simp [h]
  · simp only [decide_eq_false h, Bool.and_false, Bool.false_and]
theorem iss_all2 {s : Ser} (h : (s.iss.length : Int) = s.next ∧ (((allI s.pat).take s.iss.length).length : Int) = s.next) : issB s = okF (allI s.pat) s.iss 0 s.iss := by
  unfold issB
  rw [decide_eq_true h.1, decide_eq_true h.2]; simp
theorem serR_iss {s : Ser} (h1 : ¬ (s.rcd < 1 ∨ 9999 < s.rcd)) (h2 : patR s.pat = 0) (h3 : ¬ 128 < s.iss.length) (h4 : ¬ (s.next < 0 ∨ 5000 < s.next)) : serR s = if issB s = true then 0 else 1 := by
  unfold serR
  rw [if_neg h1, if_neg (by omega), if_neg h3, if_neg h4]
  by_cases h : ¬ (s.iss.length : Int) = s.next ∨ ¬ (((allI s.pat).take s.iss.length).length : Int) = s.next
  · rw [if_pos h, iss_not h]; rfl
  · rw [if_neg h, iss_all2 (by omega)]
theorem exp_ref {s : Ser} (h : SerOk s) {day : Int} {L : List Iss} (hL : issR s.pat 129 (min day 109572) = L) :
    L.length ≤ 129 ∧ (128 < L.length → expR s day = (zSer, 13)) ∧ (¬ 128 < L.length → expR s day = (⟨s.rcd, s.pat, ((s.iss ++ L.drop s.iss.length).length : Int), s.iss ++ L.drop s.iss.length⟩, 0)) := by
  rw [iss_129 h.pat] at hL
  have h0 := until_rng s.pat day
  have h1 := until_le s.pat day
  have hn := h.next; have hl := h.len; have ha := h.all
  obtain ⟨n, hn0⟩ : ∃ n : Nat, untilR s.pat day = (n : Int) := ⟨(untilR s.pat day).toNat, by omega⟩
  rw [hn0, Int.toNat_natCast] at hL
  rw [hn0] at h0 h1
  have hlen : L.length = min 129 n := by rw [← hL, List.length_take]; omega
  refine ⟨by omega, fun hh => ?_, fun hh => ?_⟩
  · unfold expR; rw [if_neg (by omega), if_pos (by omega)]
  · have hL2 : L = (allI s.pat).take n := by rw [← hL, show min 129 n = n by omega]
    unfold expR
    rw [hn0]
    split
    · have : L.drop s.iss.length = [] := List.drop_eq_nil_of_le (by omega)
      rw [this, List.append_nil, ← hn]
    · rw [if_neg (by omega)]
      have e : listR s.pat s.next ((n : Int) - s.next) = L.drop s.iss.length := by
        have := list_nat s.pat s.iss.length (n - s.iss.length)
        rw [hn, hL2, List.drop_take, ← this]; congr 1; omega
      rw [e]
      congr 2
      rw [List.length_append, List.length_drop]; omega
theorem list_join (p : Pat) {a b : Nat} (h : a ≤ b) : listR p 0 (a : Int) ++ listR p (a : Int) ((b : Int) - (a : Int)) = listR p 0 (b : Int) := by
  have e1 : listR p 0 (a : Int) = (allI p).take a := by have := list_nat p 0 a; simpa using this
  have e2 : listR p 0 (b : Int) = (allI p).take b := by have := list_nat p 0 b; simpa using this
  have e3 : listR p (a : Int) ((b : Int) - (a : Int)) = ((allI p).drop a).take (b - a) := by have := list_nat p a (b - a); rw [← this]; congr 1; omega
  rw [e1, e2, e3]
  have := List.take_add (l := allI p) (i := a) (j := b - a)
  rw [show a + (b - a) = b by omega] at this; exact this.symm
theorem list_0 (p : Pat) (b : Nat) : listR p 0 (b : Int) = (allI p).take b := by have := list_nat p 0 b; simpa using this
theorem exp_ok {p : Pat} (hp : patR p = 0) {n : Nat} (h : n ≤ 128) (hn : n ≤ (allI p).length) : SerOk ⟨1, p, n, listR p 0 n⟩ where
  rcd := by simp
  pat0 := hp
  len := by rw [list_0]; simp; omega
  next := by rw [list_0]; simp; omega
  all := by rw [list_0]; simp; omega
  at' := fun i x hx => by
    rw [list_0, List.getElem?_take] at hx
    split at hx
    · have := allI_rng (patR_ok hp) (List.mem_of_getElem? hx)
      unfold IssRng at this
      refine ⟨x, hx, ⟨rfl, rfl, rfl, rfl⟩, by omega, .inr ⟨by omega, by omega⟩⟩
    · cases hx
  apart := fun i k x o hx _ _ => by
    rw [list_0, List.getElem?_take] at hx
    split at hx
    · have := allI_rng (patR_ok hp) (List.mem_of_getElem? hx)
      unfold IssRng at this
      exact clash_no (by omega)
    · cases hx
theorem exp_first (p : Pat) (d : Int) (h : untilR p d ≤ 128) : expR ⟨1, p, 0, []⟩ d = (⟨1, p, untilR p d, listR p 0 (untilR p d)⟩, 0) := by
  have := (until_rng p d).1
  unfold expR
  simp only
  split
  · have e : untilR p d = 0 := by omega
    rw [e, show listR p 0 0 = [] from if_pos (by omega)]
  · rw [if_neg (by omega)]; simp
theorem exp_full (p : Pat) (d : Int) (h : 128 < untilR p d) : expR ⟨1, p, 0, []⟩ d = (zSer, 13) := by
  unfold expR
  simp only
  rw [if_neg (by omega), if_pos h]
theorem exp_two (p : Pat) {a b : Int} (hab : a ≤ b) (h : untilR p b ≤ 128) : expR (expR ⟨1, p, 0, []⟩ a).1 b = expR ⟨1, p, 0, []⟩ b := by
  have hm := until_mono p hab
  have h0 := (until_rng p a).1
  rw [exp_first p a (by omega), exp_first p b h]
  unfold expR
  simp only
  split
  · have e : untilR p b = untilR p a := by omega
    rw [e]
  · rw [if_neg (by omega)]
    have := list_join p (a := (untilR p a).toNat) (b := (untilR p b).toNat) (by omega)
    rw [Int.toNat_of_nonneg h0, Int.toNat_of_nonneg (by omega)] at this
    rw [this]
end Pl

/- Serials: the chapter's examples. -/
namespace Pl
open Go Ab
set_option linter.unusedVariables false
set_option linter.unusedSimpArgs false
set_option maxRecDepth 100000
def qP : Pat := ⟨100, 3, 4, 3, [], []⟩
theorem qP_ok : PatOk qP := by unfold PatOk qP; decide
theorem qP_right : patR qP = 0 := by decide +kernel
theorem q_parts : partsP 100 = ⟨1900, 4, 11⟩ := by
  have := parts_of (y := 1900) (m := 4) (d := 11) (by decide) (by decide)
  rw [show dayD 1900 4 11 = 100 by decide] at this
  exact this
theorem q_nom (k : Int) (v : Int) (h0 : 0 ≤ k) (h1 : k ≤ 100) (hv : ofR ((12 * 1900 + 4 - 1 + 3 * k) / 12) ((12 * 1900 + 4 - 1 + 3 * k) % 12 + 1) (min 11 (mlenD ((12 * 1900 + 4 - 1 + 3 * k) / 12) ((12 * 1900 + 4 - 1 + 3 * k) % 12 + 1))) = (v, 0)) : nomO qP k = some v := by
  have hs : stepP qP = 3 := rfl
  have hm : monthsR 100 (3 * k) = (v, 0) := by rw [mon_ex q_parts (by omega) (by omega), hv]
  have h := nom_m1 (p := qP) (k := k) (by decide) (by rw [hs]; show (monthsR 100 (3 * k)).2 = 0; rw [hm])
  rw [h, hs]
  show some (monthsR 100 (3 * k)).1 = _
  rw [hm]
theorem q_sc (k v : Int) (h : nomO qP k = some v) (hk : k ≤ 100) : scan qP k = (some v, k) := scan_some (by omega) h rfl
theorem q_one (f : Nat) (vol num d k : Int) (hv : vol ≤ 9999) (s : Option Int × Int) (hsc : scan qP (k + 1) = s) :
    issF qP (f + 1) vol num (some d, k) = ⟨vol, num, 0, d, 1, 0⟩ :: issF qP f (volN qP vol (num + 1)) (numN qP (num + 1)) s := by
  rw [issF_one qP f vol num d k hv (by unfold dblB; rfl), hsc]
theorem q_list : ∃ t, allI qP = ⟨3, 1, 0, 100, 1, 0⟩ :: ⟨3, 2, 0, 191, 1, 0⟩ :: ⟨3, 3, 0, 283, 1, 0⟩ :: ⟨3, 4, 0, 375, 1, 0⟩ :: ⟨4, 1, 0, 465, 1, 0⟩ :: ⟨4, 2, 0, 556, 1, 0⟩ :: t := by
  have s0 := q_sc 0 100 (q_nom 0 100 (by decide) (by decide) (by decide)) (by decide)
  have s1 := q_sc 1 191 (q_nom 1 191 (by decide) (by decide) (by decide)) (by decide)
  have s2 := q_sc 2 283 (q_nom 2 283 (by decide) (by decide) (by decide)) (by decide)
  have s3 := q_sc 3 375 (q_nom 3 375 (by decide) (by decide) (by decide)) (by decide)
  have s4 := q_sc 4 465 (q_nom 4 465 (by decide) (by decide) (by decide)) (by decide)
  have s5 := q_sc 5 556 (q_nom 5 556 (by decide) (by decide) (by decide)) (by decide)
  have e : allI qP = issF qP 5000 3 1 (some 100, 0) := by unfold allI; rw [s0]; rfl
  refine ⟨issF qP 4994 4 3 (scan qP 6), ?_⟩
  rw [e, q_one 4999 3 1 100 0 (by decide) _ s1,
    show volN qP 3 (1 + 1) = 3 by decide, show numN qP (1 + 1) = 2 by decide, q_one 4998 3 2 191 1 (by decide) _ s2,
    show volN qP 3 (2 + 1) = 3 by decide, show numN qP (2 + 1) = 3 by decide, q_one 4997 3 3 283 2 (by decide) _ s3,
    show volN qP 3 (3 + 1) = 3 by decide, show numN qP (3 + 1) = 4 by decide, q_one 4996 3 4 375 3 (by decide) _ s4,
    show volN qP 3 (4 + 1) = 4 by decide, show numN qP (4 + 1) = 1 by decide, q_one 4995 4 1 465 4 (by decide) _ s5,
    show volN qP 4 (1 + 1) = 4 by decide, show numN qP (1 + 1) = 2 by decide, q_one 4994 4 2 556 5 (by decide) _ rfl,
    show volN qP 4 (2 + 1) = 4 by decide, show numN qP (2 + 1) = 3 by decide]
  rfl
theorem q_until1 : untilR qP 100 = 1 := by
  obtain ⟨t, h⟩ := q_list
  unfold untilR; rw [h]; simp [List.takeWhile_cons]
theorem q_until5 : untilR qP 500 = 5 := by
  obtain ⟨t, h⟩ := q_list
  unfold untilR; rw [h]; simp [List.takeWhile_cons]
def sQ : Ser := ⟨5, qP, 0, []⟩
def sB : List Iss := [⟨3, 1, 0, 100, 1, 0⟩, ⟨3, 2, 0, 191, 1, 0⟩, ⟨3, 3, 0, 283, 1, 0⟩, ⟨3, 4, 0, 375, 1, 0⟩, ⟨4, 1, 0, 465, 1, 0⟩]
theorem q_exp1 : expR sQ 100 = (⟨5, qP, 1, [⟨3, 1, 0, 100, 1, 0⟩]⟩, 0) := by
  obtain ⟨t, h⟩ := q_list
  unfold expR
  rw [show sQ.pat = qP from rfl, q_until1, show sQ.next = 0 from rfl, if_neg (by decide), if_neg (by decide)]
  unfold listR; rw [h]; rfl
theorem q_exp5 : expR sQ 500 = (⟨5, qP, 5, sB⟩, 0) := by
  obtain ⟨t, h⟩ := q_list
  unfold expR
  rw [show sQ.pat = qP from rfl, q_until5, show sQ.next = 0 from rfl, if_neg (by decide), if_neg (by decide)]
  unfold listR; rw [h]; rfl
/-- the issues behind so many arrivals -/
def sL : Nat → List Iss
  | 0 => [⟨3, 1, 0, 100, 1, 0⟩, ⟨3, 2, 0, 191, 2, 11⟩, ⟨3, 3, 0, 283, 1, 0⟩, ⟨3, 4, 0, 375, 1, 0⟩, ⟨4, 1, 0, 465, 1, 0⟩]
  | 1 => [⟨3, 1, 0, 100, 2, 20⟩, ⟨3, 2, 0, 191, 2, 11⟩, ⟨3, 3, 0, 283, 1, 0⟩, ⟨3, 4, 0, 375, 1, 0⟩, ⟨4, 1, 0, 465, 1, 0⟩]
  | 2 => [⟨3, 1, 0, 100, 2, 20⟩, ⟨3, 2, 0, 191, 2, 11⟩, ⟨3, 3, 0, 283, 2, 21⟩, ⟨3, 4, 0, 375, 1, 0⟩, ⟨4, 1, 0, 465, 1, 0⟩]
  | _ => [⟨3, 1, 0, 100, 2, 20⟩, ⟨3, 2, 0, 191, 2, 11⟩, ⟨3, 3, 0, 283, 2, 21⟩, ⟨3, 4, 0, 375, 2, 22⟩, ⟨4, 1, 0, 465, 1, 0⟩]
def sX : List Iss := [⟨3, 1, 0, 100, 4, 50⟩, ⟨3, 2, 0, 191, 4, 50⟩, ⟨3, 3, 0, 283, 4, 50⟩, ⟨3, 4, 0, 375, 4, 50⟩, ⟨4, 1, 0, 465, 1, 0⟩]
theorem sL_len (i : Nat) : (sL i).length = 5 := by
  match i with
  | 0 => rfl
  | 1 => rfl
  | 2 => rfl
  | i + 3 => rfl
theorem q_rec : ∀ i : Nat, i < 3 → recR ⟨5, qP, 5, sL i⟩ 3 (if i = 0 then 1 else (i : Int) + 2) (20 + (i : Int)) = (⟨5, qP, 5, sL (i + 1)⟩, 0)
  | 0, _ => by decide +kernel
  | 1, _ => by decide +kernel
  | 2, _ => by decide +kernel
  | i + 3, h => by omega
def sD (a b : Int) : List Iss := [⟨3, 1, 0, 100, 3, 0⟩, ⟨3, 2, 0, 191, 2, 11⟩, ⟨3, 3, 0, 283, a, 0⟩, ⟨3, 4, 0, 375, b, 0⟩, ⟨4, 1, 0, 465, 1, 0⟩]
theorem sL_0 : sL 0 = [⟨3, 1, 0, 100, 1, 0⟩, ⟨3, 2, 0, 191, 2, 11⟩, ⟨3, 3, 0, 283, 1, 0⟩, ⟨3, 4, 0, 375, 1, 0⟩, ⟨4, 1, 0, 465, 1, 0⟩] := rfl
theorem sL_3 : sL 3 = [⟨3, 1, 0, 100, 2, 20⟩, ⟨3, 2, 0, 191, 2, 11⟩, ⟨3, 3, 0, 283, 2, 21⟩, ⟨3, 4, 0, 375, 2, 22⟩, ⟨4, 1, 0, 465, 1, 0⟩] := rfl
theorem q_right : serR ⟨5, qP, 5, sX⟩ = 0 := by
  obtain ⟨t, h⟩ := q_list
  unfold serR
  rw [if_neg (by decide), if_neg (by simp only; rw [qP_right]; decide), if_neg (by decide), if_neg (by decide)]
  simp only
  rw [h, if_neg (by simp [sX]), if_pos]
  have : ∀ L : List Iss, okF (sB ++ L) sX 0 sX = true := fun L => by
    have e : ∀ i, i < 5 → (sB ++ L).getD i zIss = sB.getD i zIss := fun i hi => by
      rw [List.getD_eq_getElem?_getD, List.getD_eq_getElem?_getD, List.getElem?_append_left (by simpa [sB] using hi)]
    have g : okF (sB ++ L) sX 0 sX = okF sB sX 0 sX := by
      unfold sX
      simp only [okF]
      rw [e 0 (by decide), e (0 + 1) (by decide), e (0 + 1 + 1) (by decide), e (0 + 1 + 1 + 1) (by decide), e (0 + 1 + 1 + 1 + 1) (by decide)]
    rw [g]; decide +kernel
  exact this _
end Pl

set_option maxRecDepth 100000
set_option linter.unusedSimpArgs false
set_option linter.unusedVariables false
namespace Go.Proofs.Ytceapemkefaicaa
open Go Ab Pl
theorem serial_within (n a b : Int) : ACalls E.P 43 [.int .i64 n, .int .i64 a, .int .i64 b] (.d (.bool (decide (a ≤ n ∧ n ≤ b)))) := by
  refine ACalls.intro E_ok Try.func43 rfl rfl Try.ntmps43 Try.results43 (Nat.le_of_ble_eq_true rfl) fun hok base S0 w0 => ?_
  -- region 0
  refine AWp.rseq E_ok [0, 1, 2, 6] fun K hK => ?_
  simp
  repeat refine ⟨by first | omega | assumption | (simp only [maxLen]; omega) | (intros; omega) | decide, ?_⟩
  refine hK _ ?_
  clear hK K
  -- region 1
  refine AWp.rseq E_ok [0, 1, 2, 6] fun K hK => ?_
  simp
  repeat refine ⟨by first | omega | assumption | (simp only [maxLen]; omega) | (intros; omega) | decide, ?_⟩
  refine hK _ ?_
  clear hK K
  refine AWp.ret ?_
  repeat first | refine thenN ?_ | refine thenX ?_ | refine thenR ?_ | refine blockN ?_ | refine blockR ?_ | refine blockX ?_ | refine blockM rfl ?_
  simp [RetOk, RV, Bool.decide_and]
end Go.Proofs.Ytceapemkefaicaa

set_option maxRecDepth 100000
set_option linter.unusedSimpArgs false
set_option linter.unusedVariables false
namespace Go.Proofs.Ytceapemkefaicaa
open Go Ab Pl
theorem pattern_months (l : List Int) : ACalls E.P 61 [encInts l] (.d (.int .i64 (monR l))) := by
  refine ACalls.intro E_ok Try.func61 rfl rfl Try.ntmps61 Try.results61 (Nat.le_of_ble_eq_true rfl) fun hok base S0 w0 => ?_
  have hl : l.length ≤ 9223372036854775807 := by have := (Ok_slice (hok (encInts l) (by simp))).1; simpa using this
  -- region 0
  refine AWp.rseq E_ok [0, 2, 4, 5, 6, 7, 8, 9, 17, 22, 34] fun K hK => ?_
  simp [encInts_eq]
  try simp (disch := omega) only [wrap_i64]
  repeat refine ⟨by first | omega | assumption | (simp only [maxLen]; omega) | (intros; omega) | decide, ?_⟩
  refine hK _ ?_
  clear hK K
  refine AWp.seq ?_
  -- region 1
  refine AWp.rseq E_ok [0, 2, 4, 5, 6, 7, 8, 9, 17, 22, 34] fun K hK => ?_
  simp [encInts_eq]
  try simp (disch := omega) only [wrap_i64]
  repeat refine ⟨by first | omega | assumption | (simp only [maxLen]; omega) | (intros; omega) | decide, ?_⟩
  refine hK _ ?_
  clear hK K
  refine AWp.block ?_
  refine AWp.range (l := l) (F := badMo) (tot := badMo () l) (fun k y => match y with | () => True) (fun k y => match y with | () => [(0, T.val ((D.int IntKind.i64 0).slice (List.map (D.int IntKind.i64) l))), (6, T.val ((D.int IntKind.i64 0).slice (List.map (D.int IntKind.i64) l))), (7, T.val (D.int IntKind.i64 ↑l.length)), (8, T.val (.int .i64 k))]) () ?_ rfl ?_ ?_
  · simp [Weak, TW, encInts_eq]
  · first | exact trivial | (simp; omega) | simp
  rintro k ⟨⟩ hk hs hi
  try simp only at hi
  -- region 2
  refine AWp.rseq E_ok [0, 2, 4, 5, 6, 7, 8, 9, 17, 22, 34] fun K hK => ?_
  simp [encInts_eq]
  try simp (disch := omega) only [wrap_i64]
  repeat refine ⟨by first | omega | assumption | (simp only [maxLen]; omega) | (intros; omega) | decide, ?_⟩
  refine hK _ ?_
  clear hK K
  refine AWp.seq ?_
  refine AWp.cond rfl (fun h9 => ?_) (fun h9 => ?_)
  · try simp at h9
    obtain ⟨x, hx, hxx, hd⟩ := at_indexG (l := l) h9
    rw [hd] at hs
    refine AWp.skip ?_
    repeat first | refine thenN ?_ | refine thenX ?_ | refine thenR ?_ | refine blockN ?_ | refine blockR ?_ | refine blockX ?_ | refine blockM rfl ?_
    refine AWp.seq ?_
    refine AWp.block ?_
    -- region 3
    refine AWp.rseq E_ok [0, 2, 4, 5, 6, 7, 8, 9, 17, 22, 34] fun K hK => ?_
    simp [encInts_eq, h9, hx, hxx]
    try simp (disch := omega) only [wrap_i64]
    repeat refine ⟨by first | omega | assumption | (simp only [maxLen]; omega) | (intros; omega) | decide, ?_⟩
    refine hK _ ?_
    clear hK K
    -- region 4
    refine AWp.rseq E_ok [0, 2, 4, 5, 6, 7, 8, 9, 17, 22, 34] fun K hK => ?_
    simp [encInts_eq, h9, hx, hxx]
    try simp (disch := omega) only [wrap_i64]
    repeat refine ⟨by first | omega | assumption | (simp only [maxLen]; omega) | (intros; omega) | decide, ?_⟩
    refine hK _ ?_
    clear hK K
    refine AWp.cond rfl (fun h17 => ?_) (fun h17 => ?_)
    · try simp at h17
      have hb := mon_bad (l := l) (by rw [← hs]; exact if_pos (by omega))
      rw [badMo, if_pos (by omega)] at hs
      -- region 5
      refine AWp.rseq E_ok [0, 2, 4, 5, 6, 7, 8, 9, 17, 22, 34] fun K hK => ?_
      simp [encInts_eq, h9, hx, hxx]
      try simp (disch := omega) only [wrap_i64]
      repeat refine ⟨by first | omega | assumption | (simp only [maxLen]; omega) | (intros; omega) | decide, ?_⟩
      refine hK _ ?_
      clear hK K
      refine AWp.ret ?_
      repeat first | refine thenN ?_ | refine thenX ?_ | refine thenR ?_ | refine blockN ?_ | refine blockR ?_ | refine blockX ?_ | refine blockM rfl ?_
      simp [RetOk, RV, hb]
    · try simp at h17
      rw [badMo, if_neg (by omega)] at hs
      refine AWp.skip ?_
      repeat first | refine thenN ?_ | refine thenX ?_ | refine thenR ?_ | refine blockN ?_ | refine blockR ?_ | refine blockX ?_ | refine blockM rfl ?_
      -- region 6
      refine AWp.rend E_ok [0, 2, 4, 5, 6, 7, 8, 9, 17, 22, 34] fun K hK => ?_
      simp [encInts_eq, h9, hx, hxx]
      try simp (disch := omega) only [wrap_i64]
      repeat refine ⟨by first | omega | assumption | (simp only [maxLen]; omega) | (intros; omega) | decide, ?_⟩
      refine hK _ ?_
      clear hK K
      repeat first | refine thenN ?_ | refine thenX ?_ | refine thenR ?_ | refine blockN ?_ | refine blockR ?_ | refine blockX ?_ | refine blockM rfl ?_
      have hw : IntKind.i64.wrap ((k : Int) + 1) = (k : Int) + 1 := by rw [wrap_i64] <;> omega
      skip
      refine ⟨_, h9, hs, ?_, ?_⟩
      · first | exact trivial | (simp; omega) | simp
      · simp [Weak, TW, hw, encInts_eq]
  · try simp at h9
    obtain rfl : k = l.length := by omega
    simp [badMo] at hs
    refine AWp.exit ?_
    repeat first | refine thenN ?_ | refine thenX ?_ | refine thenR ?_ | refine blockN ?_ | refine blockR ?_ | refine blockX ?_ | refine blockM rfl ?_
    refine AWp.seq ?_
    -- region 7
    refine AWp.rseq E_ok [0, 2, 4, 5, 6, 7, 8, 9, 17, 22, 34] fun K hK => ?_
    simp [encInts_eq, h9]
    try simp (disch := omega) only [wrap_i64]
    repeat refine ⟨by first | omega | assumption | (simp only [maxLen]; omega) | (intros; omega) | decide, ?_⟩
    refine hK _ ?_
    clear hK K
    refine AWp.block ?_
    refine AWp.loop (ι := { i : Nat // 1 ≤ i ∧ (i ≤ l.length ∨ i = 1) ∧ twMo (l.drop (i - 1)) = twMo l }) (fun x => match x with | ⟨i, hi, hi2, htw⟩ => [(0, T.val ((D.int IntKind.i64 0).slice (List.map (D.int IntKind.i64) l))), (5, T.val (.int .i64 i))]) (fun x => match x with | ⟨i, hi, hi2, htw⟩ => l.length + 1 - i) ⟨1, by omega, by omega, rfl⟩ ?_ ?_
    · simp [Weak, TW, encInts_eq]
    rintro ⟨i, hi, hi2, htw⟩
    simp only
    try simp only at hi
    try simp only at hi2
    try simp only at htw
    refine AWp.seq ?_
    -- region 8
    refine AWp.rseq E_ok [0, 2, 4, 5, 6, 7, 8, 9, 17, 22, 34] fun K hK => ?_
    simp [encInts_eq, h9]
    try simp (disch := omega) only [wrap_i64]
    repeat refine ⟨by first | omega | assumption | (simp only [maxLen]; omega) | (intros; omega) | decide, ?_⟩
    refine hK _ ?_
    clear hK K
    refine AWp.cond rfl (fun h22 => ?_) (fun h22 => ?_)
    · try simp at h22
      obtain ⟨j, rfl⟩ : ∃ j, i = j + 1 := ⟨i - 1, by omega⟩
      obtain ⟨x, hx1, hx2, _⟩ := at_indexG (l := l) (k := j + 1) (by omega)
      obtain ⟨y, hy1, hy2, _⟩ := at_indexG (l := l) (k := j) (by omega)
      have hst := tw_step hy1 hx1
      have hj0 : IntKind.i64.wrap ((j : Int) + 1 - 1) = (j : Int) := by rw [wrap_i64] <;> omega
      have hj1 : j < l.length := by omega
      refine AWp.skip ?_
      repeat first | refine thenN ?_ | refine thenX ?_ | refine thenR ?_ | refine blockN ?_ | refine blockR ?_ | refine blockX ?_ | refine blockM rfl ?_
      refine AWp.seq ?_
      refine AWp.block ?_
      -- region 10
      refine AWp.rseqQ E_ok mixed [0, 2, 4, 5, 6, 7, 8, 9, 17, 22, 34] (by kernel_rfl) fun K hK => ?_
      simp [encInts_eq, h9, h22, hx1, hx2, hy1, hy2, hj0, hj1]
      try simp (disch := omega) only [wrap_i64]
      repeat refine ⟨by first | omega | assumption | (simp only [maxLen]; omega) | (intros; omega) | decide, ?_⟩
      refine hK _ ?_
      clear hK K
      refine AWp.cond rfl (fun h34 => ?_) (fun h34 => ?_)
      · try simp at h34
        simp only [hy1, Option.getD_some] at h34
        have hb := mon_tw hs (htw ▸ (by rw [show j + 1 - 1 = j by omega, hst, if_pos (by omega)]))
        -- region 11
        refine AWp.rseq E_ok [0, 2, 4, 5, 6, 7, 8, 9, 17, 22, 34] fun K hK => ?_
        simp [encInts_eq, h9, h22, hx1, hx2, hy1, hy2, hj0, hj1]
        try simp (disch := omega) only [wrap_i64]
        repeat refine ⟨by first | omega | assumption | (simp only [maxLen]; omega) | (intros; omega) | decide, ?_⟩
        refine hK _ ?_
        clear hK K
        refine AWp.ret ?_
        repeat first | refine thenN ?_ | refine thenX ?_ | refine thenR ?_ | refine blockN ?_ | refine blockR ?_ | refine blockX ?_ | refine blockM rfl ?_
        simp [RetOk, RV, hb]
      · try simp at h34
        simp only [hy1, Option.getD_some] at h34
        rw [show j + 1 - 1 = j by omega, hst, if_neg (by omega)] at htw
        refine AWp.skip ?_
        repeat first | refine thenN ?_ | refine thenX ?_ | refine thenR ?_ | refine blockN ?_ | refine blockR ?_ | refine blockX ?_ | refine blockM rfl ?_
        -- region 9
        refine AWp.rend E_ok [0, 2, 4, 5, 6, 7, 8, 9, 17, 22, 34] fun K hK => ?_
        simp [encInts_eq, h9, h22, hx1, hx2, hy1, hy2, hj0, hj1]
        try simp (disch := omega) only [wrap_i64]
        repeat refine ⟨by first | omega | assumption | (simp only [maxLen]; omega) | (intros; omega) | decide, ?_⟩
        refine hK _ ?_
        clear hK K
        repeat first | refine thenN ?_ | refine thenX ?_ | refine thenR ?_ | refine blockN ?_ | refine blockR ?_ | refine blockX ?_ | refine blockM rfl ?_
        refine ⟨⟨j + 1 + 1, by omega, by omega, by rw [← htw]; rfl⟩, ?_, by simp only; omega⟩
        simp [Weak, TW]
    · try simp at h22
      have hb := mon_ok hs (htw ▸ tw_end (l := l) (i := i) (by omega))
      refine AWp.exit ?_
      repeat first | refine thenN ?_ | refine thenX ?_ | refine thenR ?_ | refine blockN ?_ | refine blockR ?_ | refine blockX ?_ | refine blockM rfl ?_
      -- region 12
      refine AWp.rseq E_ok [0, 2, 4, 5, 6, 7, 8, 9, 17, 22, 34] fun K hK => ?_
      simp [encInts_eq, h9, h22]
      try simp (disch := omega) only [wrap_i64]
      repeat refine ⟨by first | omega | assumption | (simp only [maxLen]; omega) | (intros; omega) | decide, ?_⟩
      refine hK _ ?_
      clear hK K
      refine AWp.ret ?_
      repeat first | refine thenN ?_ | refine thenX ?_ | refine thenR ?_ | refine blockN ?_ | refine blockR ?_ | refine blockX ?_ | refine blockM rfl ?_
      simp [RetOk, RV, hb]
end Go.Proofs.Ytceapemkefaicaa

/- Calendars: the count by weeks is the count by days. No conditions beyond those at each theorem. -/
namespace Pl
open Go Ab
set_option linter.unusedVariables false
set_option linter.unusedSimpArgs false

def b2i (b : Bool) : Int := if b = true then 1 else 0
theorem b2i_rng (b : Bool) : 0 ≤ b2i b ∧ b2i b ≤ 1 := by cases b <;> simp [b2i]
/-- how many days of [d, d+k) satisfy p -/
def cdays (p : Int → Bool) (d : Int) : Nat → Int
  | 0 => 0
  | k + 1 => cdays p d k + b2i (p (d + k))
theorem cdays_rng (p : Int → Bool) (d : Int) : ∀ k : Nat, 0 ≤ cdays p d k ∧ cdays p d k ≤ k
  | 0 => by simp [cdays]
  | k + 1 => by have := cdays_rng p d k; have := b2i_rng (p (d + k)); simp only [cdays]; omega
theorem cdays_cons (p : Int → Bool) (d : Int) : ∀ k : Nat, cdays p d (k + 1) = b2i (p d) + cdays p (d + 1) k
  | 0 => by simp [cdays]
  | k + 1 => by
    have h := cdays_cons p d k
    rw [cdays, h]
    simp only [cdays]
    have e : d + ((k + 1 : Nat) : Int) = d + 1 + (k : Int) := by omega
    rw [e]; omega
theorem cdays_add (p : Int → Bool) (d : Int) (m : Nat) : ∀ k : Nat, cdays p d (m + k) = cdays p d m + cdays p (d + m) k
  | 0 => by simp [cdays]
  | k + 1 => by
    rw [← Nat.add_assoc]; simp only [cdays]; rw [cdays_add p d m k]
    have e : d + ((m + k : Nat) : Int) = d + m + (k : Int) := by omega
    rw [e]; omega
theorem cdays_congr {p q : Int → Bool} {d : Int} : ∀ k : Nat, (∀ i : Nat, i < k → p (d + i) = q (d + i)) → cdays p d k = cdays q d k
  | 0, _ => rfl
  | k + 1, h => by simp only [cdays]; rw [cdays_congr k (fun i hi => h i (by omega)), h k (by omega)]

theorem cntN_eq (c : Cal) : ∀ (k : Nat) (d n : Int), 0 ≤ n → n + k ≤ 1000000 → cntN c k d n = n + cdays (openR c) d k
  | 0, d, n, _, _ => by simp [cntN, cdays]
  | k + 1, d, n, h0, h1 => by
    rw [cntN, cdays_cons]
    have e : IntKind.i64.wrap (n + 1) = n + 1 := wrap_i64 (by omega) (by omega)
    by_cases ho : openR c d = true
    · rw [if_pos ho, e, cntN_eq c k _ _ (by omega) (by omega)]; simp [b2i, ho]; omega
    · rw [if_neg ho, cntN_eq c k _ _ (by omega) (by omega)]; simp [b2i, ho]

def lo0 (f : Int) : Int := if f < 0 then 0 else f
def hi0 (t : Int) : Int := if 109572 < t then 109572 else t
theorem lo0_rng (f : Int) : 0 ≤ lo0 f ∧ f ≤ lo0 f := by unfold lo0; split <;> omega
theorem hi0_rng (t : Int) : hi0 t ≤ 109572 ∧ hi0 t ≤ t := by unfold hi0; split <;> omega
/-- the open days from f to t -/
def cnt (c : Cal) (f t : Int) : Int := cdays (openR c) (lo0 f) (hi0 t + 1 - lo0 f).toNat
theorem countD_cnt (c : Cal) (f t : Int) : countD c f t = cnt c f t := by
  have h1 := lo0_rng f; have h2 := hi0_rng t
  have e : countD c f t = cntN c (hi0 t + 1 - lo0 f).toNat (lo0 f) 0 := rfl
  rw [e, cntN_eq c _ _ _ (by omega) (by omega), Int.zero_add]; rfl

theorem wk_hv : ∀ (n : Fin 127) (k : Fin 7), wkB (n.val : Int) k.val = !(decide ((hv k.val (n.val : Int)).tmod 2 = 1)) := by decide +kernel
theorem wkB_eq {w : Int} (h0 : 0 ≤ w) (h1 : w < 127) {k : Nat} (hk : k < 7) : wkB w k = !(decide ((hv k w).tmod 2 = 1)) := by
  have := wk_hv ⟨w.toNat, by omega⟩ ⟨k, hk⟩
  have e : ((w.toNat : Nat) : Int) = w := Int.toNat_of_nonneg h0
  simpa only [e] using this
theorem wday_eq {d : Int} (h0 : 0 ≤ d) (h1 : d ≤ 109572) : wday d = d % 7 := by
  unfold wday isDay
  rw [if_pos (by simp [h0, h1]), Int.tmod_eq_emod_of_nonneg h0]
theorem anyF_eq (d : Int) : ∀ l : List Int, anyF d () l = !(decide (d ∈ l))
  | [] => by simp [anyF]
  | x :: l => by
    by_cases h : x = d
    · subst h; simp [anyF]
    · have h' : ¬ d = x := fun e => h e.symm
      simp [anyF, h, h', anyF_eq d l]
/-- the day of the week is open -/
def wkO (c : Cal) (d : Int) : Bool := wkB c.week (d % 7).toNat
theorem calR_facts {c : Cal} (h : calR c = 0) : 0 ≤ c.week ∧ c.week < 127 ∧ c.closed.length ≤ 64 ∧ (∀ x ∈ c.closed, 0 ≤ x ∧ x ≤ 109572) ∧ ascF none c.closed = 0 := by
  unfold calR at h
  split at h
  · exact absurd h (by decide)
  · split at h
    · exact absurd h (by decide)
    · split at h
      · exact absurd h (by decide)
      · rename_i h1 h2 h3
        refine ⟨by omega, by omega, by omega, fun x hx => ?_, h⟩
        simp only [List.any_eq_true, not_exists, not_and] at h3
        have := h3 x hx
        simp [isDay] at this
        exact this
theorem openR_eq {c : Cal} (h : calR c = 0) {d : Int} (h0 : 0 ≤ d) (h1 : d ≤ 109572) : openR c d = (wkO c d && !(decide (d ∈ c.closed))) := by
  obtain ⟨a1, a2, _⟩ := calR_facts h
  unfold openR
  rw [if_neg (by omega), wday_eq h0 h1, anyF_eq]
  unfold wkO
  rw [wkB_eq a1 a2 (by omega)]
  by_cases hh : (hv (d % 7).toNat c.week).tmod 2 = 1
  · simp [hh]
  · simp [hh]
theorem openR_day {c : Cal} {d : Int} (h : openR c d = true) : 0 ≤ d ∧ d ≤ 109572 := by
  unfold openR at h
  split at h
  · cases h
  · omega
/-- ascending lists have no member twice -/
theorem ascF_gt : ∀ (l : List Int) (m : Int), ascF (some m) l = 0 → ∀ x ∈ l, m < x
  | [], _, _, x, hx => by simp at hx
  | y :: l, m, h, x, hx => by
    simp only [ascF] at h
    split at h
    · exact absurd h (by decide)
    · rename_i h1
      have hy : m < y := by simpa [lowId] using h1
      rcases List.mem_cons.1 hx with rfl | hx
      · exact hy
      · have := ascF_gt l y h x hx; omega
theorem ascF_nodup : ∀ (l : List Int) (p : Option Int), ascF p l = 0 → l.Nodup
  | [], _, _ => List.nodup_nil
  | y :: l, p, h => by
    simp only [ascF] at h
    split at h
    · exact absurd h (by decide)
    · refine List.nodup_cons.2 ⟨fun hy => ?_, ascF_nodup l _ h⟩
      have := ascF_gt l y h y hy; omega

/-- days from 0 to a day with a weekday, without wrapping -/
def upz (d k : Int) : Int := if d < k then 0 else (d - k) / 7 + 1
theorem fst7_eq {k : Int} (h0 : 0 ≤ k) (h1 : k < 7) : fst7 k = k := by
  have e0 : wday 0 = 0 := by decide
  unfold fst7
  rw [e0]
  rw [wrap_i64 (n := k - 0) (by omega) (by omega), wrap_i64 (by omega) (by omega), Int.tmod_eq_emod_of_nonneg (by omega)]
  omega
theorem upToW_eq {d k : Int} (h0 : 0 ≤ k) (h1 : k < 7) (hd : -1 ≤ d) (hd2 : d ≤ 109572) : upToW d k = upz d k := by
  unfold upToW upz
  rw [fst7_eq h0 h1]
  by_cases h : d < k
  · rw [if_pos h, if_pos h]
  · rw [if_neg h, if_neg h]
    rw [wrap_i64 (n := d - k) (by omega) (by omega), Int.tdiv_eq_ediv_of_nonneg (by omega), wrap_i64 (n := (d - k) / 7) (by omega) (by omega), wrap_i64 (by omega) (by omega)]
theorem upz_step {d k : Int} (h0 : 0 ≤ k) (h1 : k < 7) (hd : -1 ≤ d) : upz (d + 1) k = upz d k + (if (d + 1) % 7 = k then 1 else 0) := by
  unfold upz
  split <;> split <;> split <;> omega
/-- the count of weekdays below k, without wrapping -/
def c7 (w lo hi : Int) : Nat → Int
  | 0 => 0
  | k + 1 => c7 w lo hi k + b2i (wkB w k) * (upz hi k - upz (lo - 1) k)
theorem upz_rng {lo hi k : Int} (h0 : 0 ≤ k) (h1 : k < 7) (hl : -1 ≤ lo) (hh : lo ≤ hi) : upz lo k ≤ upz hi k ∧ upz hi k - upz lo k ≤ hi - lo := by
  unfold upz; split <;> split <;> omega
theorem c7_rng {w lo hi : Int} (hl : 0 ≤ lo) (hh : lo - 1 ≤ hi) : ∀ k : Nat, k ≤ 7 → 0 ≤ c7 w lo hi k ∧ c7 w lo hi k ≤ k * (hi + 1 - lo)
  | 0, _ => by simp [c7]
  | k + 1, hk => by
    have := c7_rng (w := w) hl hh k (by omega)
    have := upz_rng (lo := lo - 1) (hi := hi) (k := k) (by omega) (by omega) (by omega) hh
    have e : ((k + 1 : Nat) : Int) * (hi + 1 - lo) = k * (hi + 1 - lo) + (hi + 1 - lo) := by
      rw [Int.natCast_add, Int.add_mul]; simp
    simp only [c7]
    rw [e]
    unfold b2i
    split <;> omega
theorem cnt7_eq {w lo hi : Int} (hl : 0 ≤ lo) (hh : lo - 1 ≤ hi) (hh2 : hi ≤ 109572) : ∀ k : Nat, k ≤ 7 → cnt7 w lo hi k = c7 w lo hi k
  | 0, _ => rfl
  | k + 1, hk => by
    have hr := c7_rng (w := w) hl hh k (by omega)
    have hu := upz_rng (lo := lo - 1) (hi := hi) (k := k) (by omega) (by omega) (by omega) hh
    have hm : (k : Int) * (hi + 1 - lo) ≤ 7 * (hi + 1 - lo) := Int.mul_le_mul_of_nonneg_right (by omega) (by omega)
    simp only [cnt7, c7]
    rw [cnt7_eq hl hh hh2 k (by omega), wrap_i64 (n := lo - 1) (by omega) (by omega), upToW_eq (by omega) (by omega) (by omega) hh2, upToW_eq (by omega) (by omega) (by omega) (by omega)]
    unfold b2i
    split
    · rw [wrap_i64 (n := upz hi k - upz (lo - 1) k) (by omega) (by omega), wrap_i64 (by omega) (by omega)]; omega
    · omega
theorem c7_step {w lo hi : Int} (hh : -1 ≤ hi) : ∀ k : Nat, k ≤ 7 → c7 w lo (hi + 1) k = c7 w lo hi k + (if (hi + 1) % 7 < k then b2i (wkB w ((hi + 1) % 7).toNat) else 0)
  | 0, _ => by
    simp only [c7]
    rw [if_neg (by omega)]; rfl
  | k + 1, hk => by
    simp only [c7]
    rw [c7_step hh k (by omega), upz_step (by omega) (by omega) hh]
    by_cases he : (hi + 1) % 7 = (k : Int)
    · rw [he, if_pos rfl, if_neg (by omega), if_pos (by omega)]
      have : ((k : Int)).toNat = k := by omega
      rw [this]
      unfold b2i; split <;> omega
    · rw [if_neg he]
      by_cases h2 : (hi + 1) % 7 < (k : Int)
      · rw [if_pos h2, if_pos (by omega)]; simp; omega
      · rw [if_neg h2, if_neg (by omega)]; simp
/-- closed days between lo and hi that would be open -/
def ccl (w lo hi : Int) : List Int → Int
  | [] => 0
  | d :: l => b2i (decide (lo ≤ d) && decide (d ≤ hi) && wkB w (d % 7).toNat) + ccl w lo hi l
theorem ccl_rng (w lo hi : Int) : ∀ l : List Int, 0 ≤ ccl w lo hi l ∧ ccl w lo hi l ≤ l.length
  | [] => by simp [ccl]
  | d :: l => by
    have := ccl_rng w lo hi l; have := b2i_rng (decide (lo ≤ d) && decide (d ≤ hi) && wkB w (d % 7).toNat)
    simp only [ccl, List.length_cons]; omega
theorem cntG_eq {w lo hi : Int} : ∀ (l : List Int) (n : Int), (∀ x ∈ l, 0 ≤ x ∧ x ≤ 109572) → -1000000 + l.length ≤ n → n ≤ 1000000 → cntG w lo hi n l = n - ccl w lo hi l
  | [], n, _, _, _ => by simp [cntG, ccl]
  | d :: l, n, hd, h1, h2 => by
    have hx := hd d (by simp)
    have hl : ∀ x ∈ l, 0 ≤ x ∧ x ≤ 109572 := fun x h => hd x (by simp [h])
    have e : cntIn w lo hi d = (decide (lo ≤ d) && decide (d ≤ hi) && wkB w (d % 7).toNat) := by
      unfold cntIn
      rw [wday_eq hx.1 hx.2]
      have : d % 7 < 7 := by omega
      simp [this]
    simp only [List.length_cons] at h1
    simp only [cntG, ccl]
    rw [e]
    split
    · rename_i h
      rw [wrap_i64 (by omega) (by omega), cntG_eq l _ hl (by omega) (by omega), h]
      simp [b2i]; omega
    · rename_i h
      rw [cntG_eq l _ hl (by omega) (by omega)]
      simp only [Bool.not_eq_true] at h
      rw [h]; simp [b2i]
theorem ccl_step {w lo hi : Int} (hl : lo ≤ hi + 1) : ∀ l : List Int, l.Nodup → ccl w lo (hi + 1) l = ccl w lo hi l + (if hi + 1 ∈ l then b2i (wkB w ((hi + 1) % 7).toNat) else 0)
  | [], _ => by simp [ccl]
  | d :: l, hn => by
    obtain ⟨h1, h2⟩ := List.nodup_cons.1 hn
    simp only [ccl]
    rw [ccl_step hl l h2]
    by_cases hd : hi + 1 = d
    · subst hd
      rw [if_neg h1, if_pos (by simp)]
      have a1 : decide (lo ≤ hi + 1) = true := by simp [hl]
      have a2 : decide (hi + 1 ≤ hi) = false := by simp; omega
      simp [a1, a2, b2i]; omega
    · have a : decide (d ≤ hi + 1) = decide (d ≤ hi) := by
        by_cases hh : d ≤ hi
        · simp [hh]; omega
        · simp [hh]; omega
      rw [a]
      have : (hi + 1 ∈ d :: l) ↔ (hi + 1 ∈ l) := by simp [hd]
      simp only [this]; omega
theorem ccl_zero {w lo hi : Int} (h : hi < lo) : ∀ l : List Int, ccl w lo hi l = 0
  | [] => rfl
  | d :: l => by
    simp only [ccl]
    rw [ccl_zero h l]
    have : (decide (lo ≤ d) && decide (d ≤ hi)) = false := by
      by_cases hh : lo ≤ d
      · have : ¬ d ≤ hi := by omega
        simp [this]
      · simp [hh]
    simp [this, b2i]
theorem c7_zero {w lo : Int} : ∀ k : Nat, c7 w lo (lo - 1) k = 0
  | 0 => rfl
  | k + 1 => by simp only [c7]; rw [c7_zero k]; simp
/-- THE COUNT by weeks is the count by days. -/
theorem weeks {c : Cal} (h : calR c = 0) {lo : Int} (hl : 0 ≤ lo) : ∀ k : Nat, lo + k ≤ 109573 → c7 c.week lo (lo + k - 1) 7 - ccl c.week lo (lo + k - 1) c.closed = cdays (openR c) lo k
  | 0, _ => by
    have e : lo + ((0 : Nat) : Int) - 1 = lo - 1 := by omega
    rw [e, c7_zero, ccl_zero (by omega)]; rfl
  | k + 1, hk => by
    have ih := weeks h hl k (by omega)
    have e : lo + ((k + 1 : Nat) : Int) - 1 = (lo + k - 1) + 1 := by omega
    obtain ⟨a1, a2, a3, a4, a5⟩ := calR_facts h
    rw [e, c7_step (by omega) 7 (Nat.le_refl _), ccl_step (by omega) _ (ascF_nodup _ _ a5), if_pos (by omega)]
    simp only [cdays]
    rw [← ih]
    have e2 : lo + (k : Int) - 1 + 1 = lo + k := by omega
    rw [e2, openR_eq h (by omega) (by omega)]
    unfold wkO
    by_cases hm : lo + (k : Int) ∈ c.closed
    · simp [hm, b2i]; omega
    · simp [hm]; omega
theorem countR_cnt {c : Cal} (h : calR c = 0) (f t : Int) : countR c f t = cnt c f t := by
  have h1 := lo0_rng f; have h2 := hi0_rng t
  obtain ⟨a1, a2, a3, a4, a5⟩ := calR_facts h
  have e : countR c f t = if hi0 t < lo0 f then 0 else cntG c.week (lo0 f) (hi0 t) (cnt7 c.week (lo0 f) (hi0 t) 7) c.closed := rfl
  rw [e]
  unfold cnt
  split
  · have : (hi0 t + 1 - lo0 f).toNat = 0 := by omega
    rw [this]; rfl
  · have hr := c7_rng (w := c.week) (lo := lo0 f) (hi := hi0 t) (by omega) (by omega) 7 (Nat.le_refl _)
    rw [cnt7_eq (by omega) (by omega) (by omega) 7 (Nat.le_refl _), cntG_eq _ _ a4 (by omega) (by omega)]
    have := weeks h (lo := lo0 f) h1.1 (hi0 t + 1 - lo0 f).toNat (by omega)
    rw [← this]
    have e2 : lo0 f + ((hi0 t + 1 - lo0 f).toNat : Int) - 1 = hi0 t := by omega
    rw [e2]
theorem countR_countD {c : Cal} (h : calR c = 0) (f t : Int) : countR c f t = countD c f t := by rw [countR_cnt h, countD_cnt]
def lateD (r : Rule) (c : Cal) (d b : Int) : Int :=
  if (¬ calR c = 0 ∨ isDay d = false) ∨ isDay b = false then 0
  else if countD c (IntKind.i64.wrap (d + 1)) b ≤ r.grace then 0
  else if r.maxFine < IntKind.i64.wrap (countD c (IntKind.i64.wrap (d + 1)) b * r.fine) then r.maxFine else IntKind.i64.wrap (countD c (IntKind.i64.wrap (d + 1)) b * r.fine)
section
variable {r : Rule} {c : Cal} {d b : Int}
theorem lateD_bad (h : (¬ calR c = 0 ∨ isDay d = false) ∨ isDay b = false) : lateD r c d b = 0 := if_pos h
theorem lateD_gr (h : (calR c = 0 ∧ isDay d = true) ∧ isDay b = true) (h2 : countD c (IntKind.i64.wrap (d + 1)) b ≤ r.grace) : lateD r c d b = 0 := by
  unfold lateD; rw [if_neg (lateN h), if_pos h2]
theorem lateD_ok (h : (calR c = 0 ∧ isDay d = true) ∧ isDay b = true) (h2 : r.grace < countD c (IntKind.i64.wrap (d + 1)) b) :
    lateD r c d b = if r.maxFine < IntKind.i64.wrap (countD c (IntKind.i64.wrap (d + 1)) b * r.fine) then r.maxFine else IntKind.i64.wrap (countD c (IntKind.i64.wrap (d + 1)) b * r.fine) := by
  unfold lateD; rw [if_neg (lateN h), if_neg (by omega)]
end
theorem lateD_eq (r : Rule) (c : Cal) (d b : Int) : lateD r c d b = lateR r c d b := by
  unfold lateD lateR
  by_cases h : calR c = 0
  · rw [countR_countD h]
  · simp [h]
theorem wrap_rng64 (n : Int) : -9223372036854775808 ≤ IntKind.i64.wrap n ∧ IntKind.i64.wrap n ≤ 9223372036854775807 := by rw [IntKind.wrap_i64]; omega
theorem lateR_rng {r : Rule} {c : Cal} {d b : Int} (h : -9223372036854775808 ≤ r.maxFine ∧ r.maxFine ≤ 9223372036854775807) : -9223372036854775808 ≤ lateR r c d b ∧ lateR r c d b ≤ 9223372036854775807 := by
  have := wrap_rng64 (countR c (IntKind.i64.wrap (d + 1)) b * r.fine)
  unfold lateR
  split
  · omega
  · split
    · omega
    · split <;> omega
end Pl

set_option maxRecDepth 100000
set_option linter.unusedSimpArgs false
set_option linter.unusedVariables false
namespace Go.Proofs.Ytceapemkefaicaa
open Go Ab Pl
theorem slices_IndexFunc_int_int (l : List Int) (f : Nat) (caps : List D) (p : Int → Bool) (hp : ∀ n, ACalls E.P f (.int .i64 n :: caps) (.d (.bool (p n)))) : ACalls E.P 78 [encInts l, .fn f caps] (.d (.int .i64 (idxF p 0 l))) := by
  refine ACalls.intro E_ok Try.func78 rfl rfl Try.ntmps78 Try.results78 (Nat.le_of_ble_eq_true rfl) fun hok base S0 w0 => ?_
  have hl : l.length ≤ 9223372036854775807 := by have := (Ok_slice (hok (encInts l) (by simp))).1; simpa using this
  -- region 0
  refine AWp.rseq E_ok [0, 1, 4, 5, 7, 8, 9, 16] fun K hK => ?_
  simp [encInts_eq]
  repeat refine ⟨by first | omega | assumption | (simp only [maxLen]; omega) | (intros; omega) | decide, ?_⟩
  refine hK _ ?_
  clear hK K
  refine AWp.seq ?_
  -- region 1
  refine AWp.rseq E_ok [0, 1, 4, 5, 7, 8, 9, 16] fun K hK => ?_
  simp [encInts_eq]
  repeat refine ⟨by first | omega | assumption | (simp only [maxLen]; omega) | (intros; omega) | decide, ?_⟩
  refine hK _ ?_
  clear hK K
  refine AWp.block ?_
  refine AWp.range (l := l) (F := idxF p) (tot := idxF p 0 l) (fun k y => match y with | i => i = (k : Int)) (fun k y => match y with | i => [(0, T.val (encInts l)), (1, T.val (.fn f caps)), (7, T.val (.int .i64 l.length)), (8, T.val (.int .i64 k))]) (0) ?_ rfl ?_ ?_
  · simp [Weak, TW, encInts_eq]
  · first | exact trivial | (simp; omega) | simp
  rintro k i hk hs hi
  try simp only at hi
  -- region 2
  refine AWp.rseq E_ok [0, 1, 4, 5, 7, 8, 9, 16] fun K hK => ?_
  simp [encInts_eq]
  repeat refine ⟨by first | omega | assumption | (simp only [maxLen]; omega) | (intros; omega) | decide, ?_⟩
  refine hK _ ?_
  clear hK K
  refine AWp.seq ?_
  refine AWp.cond rfl (fun h9 => ?_) (fun h9 => ?_)
  · try simp at h9
    obtain ⟨x, hx, hxx, hd⟩ := at_indexG (l := l) h9
    rw [hd] at hs
    refine AWp.skip ?_
    repeat first | refine thenN ?_ | refine thenX ?_ | refine thenR ?_ | refine blockN ?_ | refine blockR ?_ | refine blockX ?_ | refine blockM rfl ?_
    refine AWp.seq ?_
    refine AWp.block ?_
    -- region 3
    refine AWp.rseq E_ok [0, 1, 4, 5, 7, 8, 9, 16] fun K hK => ?_
    simp [encInts_eq, h9, hx, hxx]
    repeat refine ⟨by first | omega | assumption | (simp only [maxLen]; omega) | (intros; omega) | decide, ?_⟩
    refine hK _ ?_
    clear hK K
    -- region 4
    refine AWp.rseq E_ok [0, 1, 4, 5, 7, 8, 9, 16] fun K hK => ?_
    simp [encInts_eq, h9, hx, hxx]
    repeat refine ⟨by first | omega | assumption | (simp only [maxLen]; omega) | (intros; omega) | decide, ?_⟩
    refine meet.of (hp x) ?_
    simp [encInts_eq, h9, hx, hxx]
    repeat refine ⟨by first | omega | assumption | (simp only [maxLen]; omega) | (intros; omega) | decide, ?_⟩
    refine hK _ ?_
    clear hK K
    refine AWp.cond rfl (fun h16 => ?_) (fun h16 => ?_)
    · try simp at h16
      -- region 5
      refine AWp.rseq E_ok [0, 1, 4, 5, 7, 8, 9, 16] fun K hK => ?_
      simp [encInts_eq, h9, hx, hxx, h16]
      repeat refine ⟨by first | omega | assumption | (simp only [maxLen]; omega) | (intros; omega) | decide, ?_⟩
      refine hK _ ?_
      clear hK K
      refine AWp.ret ?_
      repeat first | refine thenN ?_ | refine thenX ?_ | refine thenR ?_ | refine blockN ?_ | refine blockR ?_ | refine blockX ?_ | refine blockM rfl ?_
      simp [idxF, h16] at hs
      first | (simp [RetOk, RV, ← hs]; done) | (simp [RetOk, RV, ← hs, hi])
    · try simp at h16
      refine AWp.skip ?_
      repeat first | refine thenN ?_ | refine thenX ?_ | refine thenR ?_ | refine blockN ?_ | refine blockR ?_ | refine blockX ?_ | refine blockM rfl ?_
      -- region 6
      refine AWp.rend E_ok [0, 1, 4, 5, 7, 8, 9, 16] fun K hK => ?_
      simp [encInts_eq, h9, hx, hxx, h16]
      repeat refine ⟨by first | omega | assumption | (simp only [maxLen]; omega) | (intros; omega) | decide, ?_⟩
      refine hK _ ?_
      clear hK K
      repeat first | refine thenN ?_ | refine thenX ?_ | refine thenR ?_ | refine blockN ?_ | refine blockR ?_ | refine blockX ?_ | refine blockM rfl ?_
      have hw : IntKind.i64.wrap ((k : Int) + 1) = (k : Int) + 1 := by rw [wrap_i64] <;> omega
      simp [idxF, h16] at hs
      refine ⟨_, h9, hs, ?_, ?_⟩
      · first | exact trivial | (simp; omega) | simp
      · simp [Weak, TW, hw, encInts_eq]
  · try simp at h9
    obtain rfl : k = l.length := by omega
    simp [idxF] at hs
    refine AWp.exit ?_
    repeat first | refine thenN ?_ | refine thenX ?_ | refine thenR ?_ | refine blockN ?_ | refine blockR ?_ | refine blockX ?_ | refine blockM rfl ?_
    -- region 7
    refine AWp.rseq E_ok [0, 1, 4, 5, 7, 8, 9, 16] fun K hK => ?_
    simp [encInts_eq, h9]
    repeat refine ⟨by first | omega | assumption | (simp only [maxLen]; omega) | (intros; omega) | decide, ?_⟩
    refine hK _ ?_
    clear hK K
    refine AWp.ret ?_
    repeat first | refine thenN ?_ | refine thenX ?_ | refine thenR ?_ | refine blockN ?_ | refine blockR ?_ | refine blockX ?_ | refine blockM rfl ?_
    first | (simp [RetOk, RV, ← hs]; done) | (simp [RetOk, RV, ← hs, hi])
end Go.Proofs.Ytceapemkefaicaa

set_option maxRecDepth 100000
set_option linter.unusedSimpArgs false
set_option linter.unusedVariables false
namespace Go.Proofs.Ytceapemkefaicaa
open Go Ab Pl
theorem slices_ContainsFunc_int_int (l : List Int) (f : Nat) (caps : List D) (p : Int → Bool) (hp : ∀ n, ACalls E.P f (.int .i64 n :: caps) (.d (.bool (p n)))) : ACalls E.P 62 [encInts l, .fn f caps] (.d (.bool (l.any p))) := by
  refine ACalls.intro E_ok Try.func62 rfl rfl Try.ntmps62 Try.results62 (Nat.le_of_ble_eq_true rfl) fun hok base S0 w0 => ?_
  -- region 0
  refine AWp.rseq E_ok [0, 1, 4] fun K hK => ?_
  simp [encInts_eq]
  repeat refine ⟨by first | omega | assumption | (simp only [maxLen]; omega) | (intros; omega) | decide, ?_⟩
  refine hK _ ?_
  clear hK K
  -- region 1
  refine AWp.rseq E_ok [0, 1, 4] fun K hK => ?_
  simp [encInts_eq]
  repeat refine ⟨by first | omega | assumption | (simp only [maxLen]; omega) | (intros; omega) | decide, ?_⟩
  refine meet.of (slices_IndexFunc_int_int _ _ _ _ hp) ?_
  simp [encInts_eq]
  repeat refine ⟨by first | omega | assumption | (simp only [maxLen]; omega) | (intros; omega) | decide, ?_⟩
  refine hK _ ?_
  clear hK K
  refine AWp.ret ?_
  repeat first | refine thenN ?_ | refine thenX ?_ | refine thenR ?_ | refine blockN ?_ | refine blockR ?_ | refine blockX ?_ | refine blockM rfl ?_
  simp [RetOk, RV, idxF_any]
end Go.Proofs.Ytceapemkefaicaa

set_option maxRecDepth 100000
set_option linter.unusedSimpArgs false
set_option linter.unusedVariables false
namespace Go.Proofs.Ytceapemkefaicaa
open Go Ab Pl
theorem slices_Index_int_int (l : List Int) (v : Int) : ACalls E.P 79 [encInts l, .int .i64 v] (.d (.int .i64 (idxE v 0 l))) := by
  refine ACalls.intro E_ok Try.func79 rfl rfl Try.ntmps79 Try.results79 (Nat.le_of_ble_eq_true rfl) fun hok base S0 w0 => ?_
  have hl : l.length ≤ 9223372036854775807 := by have := (Ok_slice (hok (encInts l) (by simp))).1; simpa using this
  -- region 0
  refine AWp.rseq E_ok [0, 1, 4, 5, 7, 8, 9, 16] fun K hK => ?_
  simp [encInts_eq]
  repeat refine ⟨by first | omega | assumption | (simp only [maxLen]; omega) | (intros; omega) | decide, ?_⟩
  refine hK _ ?_
  clear hK K
  refine AWp.seq ?_
  -- region 1
  refine AWp.rseq E_ok [0, 1, 4, 5, 7, 8, 9, 16] fun K hK => ?_
  simp [encInts_eq]
  repeat refine ⟨by first | omega | assumption | (simp only [maxLen]; omega) | (intros; omega) | decide, ?_⟩
  refine hK _ ?_
  clear hK K
  refine AWp.block ?_
  refine AWp.range (l := l) (F := idxE v) (tot := idxE v 0 l) (fun k y => match y with | i => i = (k : Int)) (fun k y => match y with | i => [(0, T.val ((D.int IntKind.i64 0).slice (List.map (D.int IntKind.i64) l))), (1, T.val (D.int IntKind.i64 v)), (7, T.val (D.int IntKind.i64 ↑l.length)), (8, T.val (.int .i64 k))]) (0) ?_ rfl ?_ ?_
  · simp [Weak, TW, encInts_eq]
  · first | exact trivial | (simp; omega) | simp
  rintro k i hk hs hi
  try simp only at hi
  -- region 2
  refine AWp.rseq E_ok [0, 1, 4, 5, 7, 8, 9, 16] fun K hK => ?_
  simp [encInts_eq]
  repeat refine ⟨by first | omega | assumption | (simp only [maxLen]; omega) | (intros; omega) | decide, ?_⟩
  refine hK _ ?_
  clear hK K
  refine AWp.seq ?_
  refine AWp.cond rfl (fun h9 => ?_) (fun h9 => ?_)
  · try simp at h9
    obtain ⟨x, hx, hxx, hd⟩ := at_indexG (l := l) h9
    rw [hd] at hs
    refine AWp.skip ?_
    repeat first | refine thenN ?_ | refine thenX ?_ | refine thenR ?_ | refine blockN ?_ | refine blockR ?_ | refine blockX ?_ | refine blockM rfl ?_
    refine AWp.seq ?_
    refine AWp.block ?_
    -- region 3
    refine AWp.rseq E_ok [0, 1, 4, 5, 7, 8, 9, 16] fun K hK => ?_
    simp [encInts_eq, h9, hx, hxx]
    repeat refine ⟨by first | omega | assumption | (simp only [maxLen]; omega) | (intros; omega) | decide, ?_⟩
    refine hK _ ?_
    clear hK K
    -- region 4
    refine AWp.rseq E_ok [0, 1, 4, 5, 7, 8, 9, 16] fun K hK => ?_
    simp [encInts_eq, h9, hx, hxx]
    repeat refine ⟨by first | omega | assumption | (simp only [maxLen]; omega) | (intros; omega) | decide, ?_⟩
    refine hK _ ?_
    clear hK K
    refine AWp.cond rfl (fun h16 => ?_) (fun h16 => ?_)
    · try simp at h16
      -- region 5
      refine AWp.rseq E_ok [0, 1, 4, 5, 7, 8, 9, 16] fun K hK => ?_
      simp [encInts_eq, h9, hx, hxx, h16]
      repeat refine ⟨by first | omega | assumption | (simp only [maxLen]; omega) | (intros; omega) | decide, ?_⟩
      refine hK _ ?_
      clear hK K
      refine AWp.ret ?_
      repeat first | refine thenN ?_ | refine thenX ?_ | refine thenR ?_ | refine blockN ?_ | refine blockR ?_ | refine blockX ?_ | refine blockM rfl ?_
      simp [idxE, h16] at hs
      first | (simp [RetOk, RV, ← hs]; done) | (simp [RetOk, RV, ← hs, hi]; done) | (subst h16; simp [RetOk, RV, ← hs, hi])
    · try simp at h16
      refine AWp.skip ?_
      repeat first | refine thenN ?_ | refine thenX ?_ | refine thenR ?_ | refine blockN ?_ | refine blockR ?_ | refine blockX ?_ | refine blockM rfl ?_
      -- region 6
      refine AWp.rend E_ok [0, 1, 4, 5, 7, 8, 9, 16] fun K hK => ?_
      simp [encInts_eq, h9, hx, hxx, h16]
      repeat refine ⟨by first | omega | assumption | (simp only [maxLen]; omega) | (intros; omega) | decide, ?_⟩
      refine hK _ ?_
      clear hK K
      repeat first | refine thenN ?_ | refine thenX ?_ | refine thenR ?_ | refine blockN ?_ | refine blockR ?_ | refine blockX ?_ | refine blockM rfl ?_
      have hw : IntKind.i64.wrap ((k : Int) + 1) = (k : Int) + 1 := by rw [wrap_i64] <;> omega
      simp [idxE, h16] at hs
      refine ⟨_, h9, hs, ?_, ?_⟩
      · first | exact trivial | (simp; omega) | simp
      · simp [Weak, TW, hw, encInts_eq]
  · try simp at h9
    obtain rfl : k = l.length := by omega
    simp [idxE] at hs
    refine AWp.exit ?_
    repeat first | refine thenN ?_ | refine thenX ?_ | refine thenR ?_ | refine blockN ?_ | refine blockR ?_ | refine blockX ?_ | refine blockM rfl ?_
    -- region 7
    refine AWp.rseq E_ok [0, 1, 4, 5, 7, 8, 9, 16] fun K hK => ?_
    simp [encInts_eq, h9]
    repeat refine ⟨by first | omega | assumption | (simp only [maxLen]; omega) | (intros; omega) | decide, ?_⟩
    refine hK _ ?_
    clear hK K
    refine AWp.ret ?_
    repeat first | refine thenN ?_ | refine thenX ?_ | refine thenR ?_ | refine blockN ?_ | refine blockR ?_ | refine blockX ?_ | refine blockM rfl ?_
    first | (simp [RetOk, RV, ← hs]; done) | (simp [RetOk, RV, ← hs, hi]; done) | (subst h16; simp [RetOk, RV, ← hs, hi])
end Go.Proofs.Ytceapemkefaicaa

set_option maxRecDepth 100000
set_option linter.unusedSimpArgs false
set_option linter.unusedVariables false
namespace Go.Proofs.Ytceapemkefaicaa
open Go Ab Pl
theorem slices_Contains_int_int (l : List Int) (v : Int) : ACalls E.P 64 [encInts l, .int .i64 v] (.d (.bool (l.contains v))) := by
  refine ACalls.intro E_ok Try.func64 rfl rfl Try.ntmps64 Try.results64 (Nat.le_of_ble_eq_true rfl) fun hok base S0 w0 => ?_
  -- region 0
  refine AWp.rseq E_ok [0, 1, 4] fun K hK => ?_
  simp [encInts_eq]
  repeat refine ⟨by first | omega | assumption | (simp only [maxLen]; omega) | (intros; omega) | decide, ?_⟩
  refine hK _ ?_
  clear hK K
  -- region 1
  refine AWp.rseq E_ok [0, 1, 4] fun K hK => ?_
  simp [encInts_eq]
  repeat refine ⟨by first | omega | assumption | (simp only [maxLen]; omega) | (intros; omega) | decide, ?_⟩
  refine meet.of (slices_Index_int_int _ _) ?_
  simp [encInts_eq]
  repeat refine ⟨by first | omega | assumption | (simp only [maxLen]; omega) | (intros; omega) | decide, ?_⟩
  refine hK _ ?_
  clear hK K
  refine AWp.ret ?_
  repeat first | refine thenN ?_ | refine thenX ?_ | refine thenR ?_ | refine blockN ?_ | refine blockR ?_ | refine blockX ?_ | refine blockM rfl ?_
  simp [RetOk, RV, idxE_has]
end Go.Proofs.Ytceapemkefaicaa

set_option maxRecDepth 100000
set_option linter.unusedSimpArgs false
set_option linter.unusedVariables false
namespace Go.Proofs.Ytceapemkefaicaa
open Go Ab Pl
theorem pattern_Right_1 (m : Int) (p : Pat) : ACalls E.P 63 [.int .i64 m, .ref (encPat p).cells] (.d (.bool (p.skip.contains m))) := by
  refine ACalls.intro E_ok Try.func63 rfl rfl Try.ntmps63 Try.results63 (Nat.le_of_ble_eq_true rfl) fun hok base S0 w0 => ?_
  -- region 0
  refine AWp.rseq E_ok [0, 1, 3] fun K hK => ?_
  simp [encPat_eq]
  repeat refine ⟨by first | omega | assumption | (simp only [maxLen]; omega) | (intros; omega) | decide, ?_⟩
  refine hK _ ?_
  clear hK K
  -- region 1
  refine AWp.rseq E_ok [0, 1, 3] fun K hK => ?_
  simp [encPat_eq]
  repeat refine ⟨by first | omega | assumption | (simp only [maxLen]; omega) | (intros; omega) | decide, ?_⟩
  refine meet.of (slices_Contains_int_int p.skip m) ?_
  simp [encPat_eq]
  repeat refine ⟨by first | omega | assumption | (simp only [maxLen]; omega) | (intros; omega) | decide, ?_⟩
  refine hK _ ?_
  clear hK K
  refine AWp.ret ?_
  repeat first | refine thenN ?_ | refine thenX ?_ | refine thenR ?_ | refine blockN ?_ | refine blockR ?_ | refine blockX ?_ | refine blockM rfl ?_
  simp [RetOk, RV]
end Go.Proofs.Ytceapemkefaicaa

set_option maxRecDepth 100000
set_option linter.unusedSimpArgs false
set_option linter.unusedVariables false
namespace Go.Proofs.Ytceapemkefaicaa
open Go Ab Pl
theorem pattern_Right (p : Pat) : ACalls E.P 39 [encPat p] (.d (.int .i64 (patR p))) := by
  refine ACalls.intro E_ok Try.func39 rfl rfl Try.ntmps39 Try.results39 (Nat.le_of_ble_eq_true rfl) fun hok base S0 w0 => ?_
  -- region 0
  refine AWp.rseq E_ok [0, 1, 2, 3, 4, 32, 40, 45, 51, 78, 82] fun K hK => ?_
  simp [encPat_eq, encInts_eq]
  repeat refine ⟨by first | omega | assumption | (simp only [maxLen]; omega) | (intros; omega) | decide, ?_⟩
  refine hK _ ?_
  clear hK K
  refine AWp.seq ?_
  -- region 1
  refine AWp.rseq E_ok [0, 1, 2, 3, 4, 32, 40, 45, 51, 78, 82] fun K hK => ?_
  simp [encPat_eq, encInts_eq]
  repeat refine ⟨by first | omega | assumption | (simp only [maxLen]; omega) | (intros; omega) | decide, ?_⟩
  refine hK _ ?_
  clear hK K
  refine AWp.cond rfl (fun h32 => ?_) (fun h32 => ?_)
  · try simp at h32
    have hb : patR p = 2 := if_pos (by omega)
    -- region 2
    refine AWp.rseq E_ok [0, 1, 2, 3, 4, 32, 40, 45, 51, 78, 82] fun K hK => ?_
    simp [encPat_eq, encInts_eq]
    repeat refine ⟨by first | omega | assumption | (simp only [maxLen]; omega) | (intros; omega) | decide, ?_⟩
    refine hK _ ?_
    clear hK K
    refine AWp.ret ?_
    repeat first | refine thenN ?_ | refine thenX ?_ | refine thenR ?_ | refine blockN ?_ | refine blockR ?_ | refine blockX ?_ | refine blockM rfl ?_
    simp [RetOk, RV, hb]
  · try simp at h32
    refine AWp.skip ?_
    repeat first | refine thenN ?_ | refine thenX ?_ | refine thenR ?_ | refine blockN ?_ | refine blockR ?_ | refine blockX ?_ | refine blockM rfl ?_
    refine AWp.seq ?_
    -- region 3
    refine AWp.rseq E_ok [0, 1, 2, 3, 4, 32, 40, 45, 51, 78, 82] fun K hK => ?_
    simp [encPat_eq, encInts_eq]
    repeat refine ⟨by first | omega | assumption | (simp only [maxLen]; omega) | (intros; omega) | decide, ?_⟩
    refine hK _ ?_
    clear hK K
    refine AWp.cond rfl (fun h40 => ?_) (fun h40 => ?_)
    · try simp at h40
      have hb : patR p = 1 := by unfold patR; rw [if_neg (by omega), if_pos (by omega)]
      -- region 4
      refine AWp.rseq E_ok [0, 1, 2, 3, 4, 32, 40, 45, 51, 78, 82] fun K hK => ?_
      simp [encPat_eq, encInts_eq]
      repeat refine ⟨by first | omega | assumption | (simp only [maxLen]; omega) | (intros; omega) | decide, ?_⟩
      refine hK _ ?_
      clear hK K
      refine AWp.ret ?_
      repeat first | refine thenN ?_ | refine thenX ?_ | refine thenR ?_ | refine blockN ?_ | refine blockR ?_ | refine blockX ?_ | refine blockM rfl ?_
      simp [RetOk, RV, hb]
    · try simp at h40
      refine AWp.skip ?_
      repeat first | refine thenN ?_ | refine thenX ?_ | refine thenR ?_ | refine blockN ?_ | refine blockR ?_ | refine blockX ?_ | refine blockM rfl ?_
      refine AWp.seq ?_
      -- region 5
      refine AWp.rseq E_ok [0, 1, 2, 3, 4, 32, 40, 45, 51, 78, 82] fun K hK => ?_
      simp [encPat_eq, encInts_eq]
      repeat refine ⟨by first | omega | assumption | (simp only [maxLen]; omega) | (intros; omega) | decide, ?_⟩
      refine meet.of (pattern_months p.skip) ?_
      simp [encPat_eq, encInts_eq]
      repeat refine ⟨by first | omega | assumption | (simp only [maxLen]; omega) | (intros; omega) | decide, ?_⟩
      refine hK _ ?_
      clear hK K
      -- region 6
      refine AWp.rseq E_ok [0, 1, 2, 3, 4, 32, 40, 45, 51, 78, 82] fun K hK => ?_
      simp [encPat_eq, encInts_eq]
      repeat refine ⟨by first | omega | assumption | (simp only [maxLen]; omega) | (intros; omega) | decide, ?_⟩
      refine hK _ ?_
      clear hK K
      refine AWp.cond rfl (fun h45 => ?_) (fun h45 => ?_)
      · try simp at h45
        have hb : patR p = monR p.skip := by unfold patR; rw [if_neg (by omega), if_neg (by omega), if_pos h45]
        -- region 7
        refine AWp.rseq E_ok [0, 1, 2, 3, 4, 32, 40, 45, 51, 78, 82] fun K hK => ?_
        simp [encPat_eq, encInts_eq]
        repeat refine ⟨by first | omega | assumption | (simp only [maxLen]; omega) | (intros; omega) | decide, ?_⟩
        refine hK _ ?_
        clear hK K
        refine AWp.ret ?_
        repeat first | refine thenN ?_ | refine thenX ?_ | refine thenR ?_ | refine blockN ?_ | refine blockR ?_ | refine blockX ?_ | refine blockM rfl ?_
        simp [RetOk, RV, hb]
      · try simp at h45
        refine AWp.skip ?_
        repeat first | refine thenN ?_ | refine thenX ?_ | refine thenR ?_ | refine blockN ?_ | refine blockR ?_ | refine blockX ?_ | refine blockM rfl ?_
        refine AWp.seq ?_
        -- region 8
        refine AWp.rseq E_ok [0, 1, 2, 3, 4, 32, 40, 45, 51, 78, 82] fun K hK => ?_
        simp [encPat_eq, encInts_eq]
        repeat refine ⟨by first | omega | assumption | (simp only [maxLen]; omega) | (intros; omega) | decide, ?_⟩
        refine meet.of (pattern_months p.dbl) ?_
        simp [encPat_eq, encInts_eq]
        repeat refine ⟨by first | omega | assumption | (simp only [maxLen]; omega) | (intros; omega) | decide, ?_⟩
        refine hK _ ?_
        clear hK K
        -- region 9
        refine AWp.rseq E_ok [0, 1, 2, 3, 4, 32, 40, 45, 51, 78, 82] fun K hK => ?_
        simp [encPat_eq, encInts_eq]
        repeat refine ⟨by first | omega | assumption | (simp only [maxLen]; omega) | (intros; omega) | decide, ?_⟩
        refine hK _ ?_
        clear hK K
        refine AWp.cond rfl (fun h51 => ?_) (fun h51 => ?_)
        · try simp at h51
          have hb : patR p = monR p.dbl := by unfold patR; rw [if_neg (by omega), if_neg (by omega), if_neg (by omega), if_pos h51]
          -- region 10
          refine AWp.rseq E_ok [0, 1, 2, 3, 4, 32, 40, 45, 51, 78, 82] fun K hK => ?_
          simp [encPat_eq, encInts_eq]
          repeat refine ⟨by first | omega | assumption | (simp only [maxLen]; omega) | (intros; omega) | decide, ?_⟩
          refine hK _ ?_
          clear hK K
          refine AWp.ret ?_
          repeat first | refine thenN ?_ | refine thenX ?_ | refine thenR ?_ | refine blockN ?_ | refine blockR ?_ | refine blockX ?_ | refine blockM rfl ?_
          simp [RetOk, RV, hb]
        · try simp at h51
          refine AWp.skip ?_
          repeat first | refine thenN ?_ | refine thenX ?_ | refine thenR ?_ | refine blockN ?_ | refine blockR ?_ | refine blockX ?_ | refine blockM rfl ?_
          refine AWp.seq ?_
          -- region 11
          refine AWp.rseq E_ok [0, 1, 2, 3, 4, 32, 40, 45, 51, 78, 82] fun K hK => ?_
          simp [encPat_eq, encInts_eq]
          repeat refine ⟨by first | omega | assumption | (simp only [maxLen]; omega) | (intros; omega) | decide, ?_⟩
          refine hK _ ?_
          clear hK K
          refine AWp.cond rfl (fun h78 => ?_) (fun h78 => ?_)
          · try simp at h78
            have hb : patR p = 1 := by unfold patR; rw [if_neg (by omega), if_neg (by omega), if_neg (by omega), if_neg (by omega), if_pos (by omega)]
            -- region 12
            refine AWp.rseq E_ok [0, 1, 2, 3, 4, 32, 40, 45, 51, 78, 82] fun K hK => ?_
            simp [encPat_eq, encInts_eq]
            repeat refine ⟨by first | omega | assumption | (simp only [maxLen]; omega) | (intros; omega) | decide, ?_⟩
            refine hK _ ?_
            clear hK K
            refine AWp.ret ?_
            repeat first | refine thenN ?_ | refine thenX ?_ | refine thenR ?_ | refine blockN ?_ | refine blockR ?_ | refine blockX ?_ | refine blockM rfl ?_
            simp [RetOk, RV, hb]
          · try simp at h78
            refine AWp.skip ?_
            repeat first | refine thenN ?_ | refine thenX ?_ | refine thenR ?_ | refine blockN ?_ | refine blockR ?_ | refine blockX ?_ | refine blockM rfl ?_
            refine AWp.seq ?_
            -- region 13
            refine AWp.rseq E_ok [0, 1, 2, 3, 4, 32, 40, 45, 51, 78, 82] fun K hK => ?_
            simp [encPat_eq, encInts_eq]
            repeat refine ⟨by first | omega | assumption | (simp only [maxLen]; omega) | (intros; omega) | decide, ?_⟩
            refine meet.of (slices_ContainsFunc_int_int p.dbl _ _ (fun m => p.skip.contains m) (fun m => pattern_Right_1 m p)) ?_
            simp [encPat_eq, encInts_eq]
            repeat refine ⟨by first | omega | assumption | (simp only [maxLen]; omega) | (intros; omega) | decide, ?_⟩
            refine hK _ ?_
            clear hK K
            refine AWp.cond rfl (fun h82 => ?_) (fun h82 => ?_)
            · try simp at h82
              have hb : patR p = 1 := by unfold patR; rw [if_neg (by omega), if_neg (by omega), if_neg (by omega), if_neg (by omega), if_neg (by omega), if_pos (by simpa using h82)]
              -- region 14
              refine AWp.rseq E_ok [0, 1, 2, 3, 4, 32, 40, 45, 51, 78, 82] fun K hK => ?_
              simp [encPat_eq, encInts_eq]
              repeat refine ⟨by first | omega | assumption | (simp only [maxLen]; omega) | (intros; omega) | decide, ?_⟩
              refine hK _ ?_
              clear hK K
              refine AWp.ret ?_
              repeat first | refine thenN ?_ | refine thenX ?_ | refine thenR ?_ | refine blockN ?_ | refine blockR ?_ | refine blockX ?_ | refine blockM rfl ?_
              simp [RetOk, RV, hb]
            · try simp at h82
              have hb : patR p = 0 := by unfold patR; rw [if_neg (by omega), if_neg (by omega), if_neg (by omega), if_neg (by omega), if_neg (by omega), if_neg (by simpa using h82)]
              refine AWp.skip ?_
              repeat first | refine thenN ?_ | refine thenX ?_ | refine thenR ?_ | refine blockN ?_ | refine blockR ?_ | refine blockX ?_ | refine blockM rfl ?_
              -- region 15
              refine AWp.rseq E_ok [0, 1, 2, 3, 4, 32, 40, 45, 51, 78, 82] fun K hK => ?_
              simp [encPat_eq, encInts_eq]
              repeat refine ⟨by first | omega | assumption | (simp only [maxLen]; omega) | (intros; omega) | decide, ?_⟩
              refine hK _ ?_
              clear hK K
              refine AWp.ret ?_
              repeat first | refine thenN ?_ | refine thenX ?_ | refine thenR ?_ | refine blockN ?_ | refine blockR ?_ | refine blockX ?_ | refine blockM rfl ?_
              simp [RetOk, RV, hb]
end Go.Proofs.Ytceapemkefaicaa

set_option maxRecDepth 100000
set_option linter.unusedSimpArgs false
set_option linter.unusedVariables false
namespace Go.Proofs.Ytceapemkefaicaa
open Go Ab Pl
theorem serial_New (r : Int) (p : Pat) : ACalls E.P 18 [.int .i64 r, encPat p] (.tup [encSer (newR r p).1, .int .i64 (newR r p).2]) := by
  refine ACalls.intro E_ok Try.func18 rfl rfl Try.ntmps18 Try.results18 (Nat.le_of_ble_eq_true rfl) fun hok base S0 w0 => ?_
  -- region 0
  refine AWp.rseq E_ok [0, 1, 3, 4, 5, 6, 9, 14] fun K hK => ?_
  simp [encPat_eq, encSer_eq]
  repeat refine ⟨by first | omega | assumption | (simp only [maxLen]; omega) | (intros; omega) | decide, ?_⟩
  refine hK _ ?_
  clear hK K
  refine AWp.seq ?_
  -- region 1
  refine AWp.rseq E_ok [0, 1, 3, 4, 5, 6, 9, 14] fun K hK => ?_
  simp [encPat_eq, encSer_eq]
  repeat refine ⟨by first | omega | assumption | (simp only [maxLen]; omega) | (intros; omega) | decide, ?_⟩
  refine meet.of (serial_within _ _ _) ?_
  simp [encPat_eq, encSer_eq]
  repeat refine ⟨by first | omega | assumption | (simp only [maxLen]; omega) | (intros; omega) | decide, ?_⟩
  refine hK _ ?_
  clear hK K
  refine AWp.cond rfl (fun h9 => ?_) (fun h9 => ?_)
  · try simp at h9
    have hb : newR r p = (zSer, 2) := if_pos (by omega)
    -- region 2
    refine AWp.rseq E_ok [0, 1, 3, 4, 5, 6, 9, 14] fun K hK => ?_
    simp [encPat_eq, encSer_eq]
    repeat refine ⟨by first | omega | assumption | (simp only [maxLen]; omega) | (intros; omega) | decide, ?_⟩
    refine hK _ ?_
    clear hK K
    refine AWp.ret ?_
    repeat first | refine thenN ?_ | refine thenX ?_ | refine thenR ?_ | refine blockN ?_ | refine blockR ?_ | refine blockX ?_ | refine blockM rfl ?_
    simp [RetOk, RV, RVs, hb, zSer, zPat, encSer_eq, encInts_eq, encIsss_eq, encIss_eq, zIss]
  · try simp at h9
    refine AWp.skip ?_
    repeat first | refine thenN ?_ | refine thenX ?_ | refine thenR ?_ | refine blockN ?_ | refine blockR ?_ | refine blockX ?_ | refine blockM rfl ?_
    refine AWp.seq ?_
    -- region 3
    refine AWp.rseq E_ok [0, 1, 3, 4, 5, 6, 9, 14] fun K hK => ?_
    simp [encPat_eq, encSer_eq]
    repeat refine ⟨by first | omega | assumption | (simp only [maxLen]; omega) | (intros; omega) | decide, ?_⟩
    refine meet.of (pattern_Right p) ?_
    simp [encPat_eq, encSer_eq]
    repeat refine ⟨by first | omega | assumption | (simp only [maxLen]; omega) | (intros; omega) | decide, ?_⟩
    refine hK _ ?_
    clear hK K
    -- region 4
    refine AWp.rseq E_ok [0, 1, 3, 4, 5, 6, 9, 14] fun K hK => ?_
    simp [encPat_eq, encSer_eq]
    repeat refine ⟨by first | omega | assumption | (simp only [maxLen]; omega) | (intros; omega) | decide, ?_⟩
    refine hK _ ?_
    clear hK K
    refine AWp.cond rfl (fun h14 => ?_) (fun h14 => ?_)
    · try simp at h14
      have hb : newR r p = (zSer, patR p) := by unfold newR; rw [if_neg (by omega), if_pos h14]
      -- region 5
      refine AWp.rseq E_ok [0, 1, 3, 4, 5, 6, 9, 14] fun K hK => ?_
      simp [encPat_eq, encSer_eq]
      repeat refine ⟨by first | omega | assumption | (simp only [maxLen]; omega) | (intros; omega) | decide, ?_⟩
      refine hK _ ?_
      clear hK K
      refine AWp.ret ?_
      repeat first | refine thenN ?_ | refine thenX ?_ | refine thenR ?_ | refine blockN ?_ | refine blockR ?_ | refine blockX ?_ | refine blockM rfl ?_
      simp [RetOk, RV, RVs, hb, zSer, zPat, encSer_eq, encInts_eq, encIsss_eq, encIss_eq, zIss]
    · try simp at h14
      have hb : newR r p = (⟨r, p, 0, []⟩, 0) := by unfold newR; rw [if_neg (by omega), if_neg (by omega)]
      refine AWp.skip ?_
      repeat first | refine thenN ?_ | refine thenX ?_ | refine thenR ?_ | refine blockN ?_ | refine blockR ?_ | refine blockX ?_ | refine blockM rfl ?_
      -- region 6
      refine AWp.rseq E_ok [0, 1, 3, 4, 5, 6, 9, 14] fun K hK => ?_
      simp [encPat_eq, encSer_eq]
      repeat refine ⟨by first | omega | assumption | (simp only [maxLen]; omega) | (intros; omega) | decide, ?_⟩
      refine hK _ ?_
      clear hK K
      refine AWp.ret ?_
      repeat first | refine thenN ?_ | refine thenX ?_ | refine thenR ?_ | refine blockN ?_ | refine blockR ?_ | refine blockX ?_ | refine blockM rfl ?_
      simp [RetOk, RV, RVs, hb, zSer, zPat, encSer_eq, encInts_eq, encIsss_eq, encIss_eq, zIss]
end Go.Proofs.Ytceapemkefaicaa

set_option maxRecDepth 100000
set_option linter.unusedSimpArgs false
set_option linter.unusedVariables false
namespace Go.Proofs.Ytceapemkefaicaa
open Go Ab Pl
theorem date_known (n : Int) : ACalls E.P 92 [.int .i64 n] (.d (.bool (isDay n))) := by
  refine ACalls.intro E_ok Try.func92 rfl rfl Try.ntmps92 Try.results92 (Nat.le_of_ble_eq_true rfl) fun hok base S0 w0 => ?_
  -- region 0
  refine AWp.rseq E_ok [0, 2] fun K hK => ?_
  simp
  repeat refine ⟨by first | omega | assumption | (simp only [maxLen]; omega) | (intros; omega) | decide, ?_⟩
  refine hK _ ?_
  clear hK K
  -- region 1
  refine AWp.rseq E_ok [0, 2] fun K hK => ?_
  simp
  repeat refine ⟨by first | omega | assumption | (simp only [maxLen]; omega) | (intros; omega) | decide, ?_⟩
  refine hK _ ?_
  clear hK K
  refine AWp.ret ?_
  repeat first | refine thenN ?_ | refine thenX ?_ | refine thenR ?_ | refine blockN ?_ | refine blockR ?_ | refine blockX ?_ | refine blockM rfl ?_
  simp [RetOk, RV, isDay]
end Go.Proofs.Ytceapemkefaicaa

set_option maxRecDepth 100000
set_option linter.unusedSimpArgs false
set_option linter.unusedVariables false
namespace Go.Proofs.Ytceapemkefaicaa
open Go Ab Pl
theorem date_leap (y : Int) (hy : 0 ≤ y) : ACalls E.P 98 [.int .i64 y] (.d (.bool (leapB y))) := by
  refine ACalls.intro E_ok Try.func98 rfl rfl Try.ntmps98 Try.results98 (Nat.le_of_ble_eq_true rfl) fun hok base S0 w0 => ?_
  -- region 0
  refine AWp.rseq E_ok [0, 2] fun K hK => ?_
  simp
  repeat refine ⟨by first | omega | assumption | (simp only [maxLen]; omega) | (intros; omega) | decide, ?_⟩
  refine hK _ ?_
  clear hK K
  -- region 1
  refine AWp.rseq E_ok [0, 2] fun K hK => ?_
  simp
  repeat refine ⟨by first | omega | assumption | (simp only [maxLen]; omega) | (intros; omega) | decide, ?_⟩
  refine hK _ ?_
  clear hK K
  refine AWp.ret ?_
  repeat first | refine thenN ?_ | refine thenX ?_ | refine thenR ?_ | refine blockN ?_ | refine blockR ?_ | refine blockX ?_ | refine blockM rfl ?_
  simp [RetOk, RV, RVs, Int.tmod_eq_emod_of_nonneg hy]; rw [Bool.eq_iff_iff]; simp [leapB]
end Go.Proofs.Ytceapemkefaicaa

set_option maxRecDepth 100000
set_option linter.unusedSimpArgs false
set_option linter.unusedVariables false
namespace Go.Proofs.Ytceapemkefaicaa
open Go Ab Pl
theorem date_newYear (y : Int) (hy : 1900 ≤ y ∧ y ≤ 2200) : ACalls E.P 93 [.int .i64 y] (.d (.int .i64 (nyD y))) := by
  refine ACalls.intro E_ok Try.func93 rfl rfl Try.ntmps93 Try.results93 (Nat.le_of_ble_eq_true rfl) fun hok base S0 w0 => ?_
  have e1 : IntKind.i64.wrap (y - 1900) = y - 1900 := by rw [wrap_i64] <;> omega
  have e2 : IntKind.i64.wrap ((y - 1900) * 365) = (y - 1900) * 365 := by rw [wrap_i64] <;> omega
  have hr := ny_rng hy.1 hy.2
  -- region 0
  refine AWp.rseq E_ok [0, 2, 3, 4, 5, 12, 16] fun K hK => ?_
  simp [ny_first, e1, e2]
  repeat refine ⟨by first | omega | assumption | (simp only [maxLen]; omega) | (intros; omega) | decide, ?_⟩
  refine hK _ ?_
  clear hK K
  -- region 1
  refine AWp.rseq E_ok [0, 2, 3, 4, 5, 12, 16] fun K hK => ?_
  simp [ny_first, e1, e2]
  repeat refine ⟨by first | omega | assumption | (simp only [maxLen]; omega) | (intros; omega) | decide, ?_⟩
  refine hK _ ?_
  clear hK K
  -- region 2
  refine AWp.rseq E_ok [0, 2, 3, 4, 5, 12, 16] fun K hK => ?_
  simp [ny_first, e1, e2]
  repeat refine ⟨by first | omega | assumption | (simp only [maxLen]; omega) | (intros; omega) | decide, ?_⟩
  refine hK _ ?_
  clear hK K
  refine AWp.seq ?_
  -- region 3
  refine AWp.rseq E_ok [0, 2, 3, 4, 5, 12, 16] fun K hK => ?_
  simp [ny_first, e1, e2]
  repeat refine ⟨by first | omega | assumption | (simp only [maxLen]; omega) | (intros; omega) | decide, ?_⟩
  refine hK _ ?_
  clear hK K
  refine AWp.block ?_
  refine AWp.loop (ι := { k : Int // 1900 ≤ k ∧ k ≤ y }) (fun x => match x with | ⟨k, hk, hk2⟩ => [(0, T.val (D.int IntKind.i64 y)), (4, T.val (.int .i64 ((y - 1900) * 365 + (nyD k - 365 * (k - 1900))))), (5, T.val (.int .i64 k))]) (fun x => match x with | ⟨k, hk, hk2⟩ => (y - k).toNat) ⟨1900, Int.le_refl _, hy.1⟩ ?_ ?_
  · simp [Weak, TW, ny_first]
  rintro ⟨k, hk, hk2⟩
  simp only
  try simp only at hk
  try simp only at hk2
  refine AWp.seq ?_
  -- region 4
  refine AWp.rseq E_ok [0, 2, 3, 4, 5, 12, 16] fun K hK => ?_
  simp [ny_first, e1, e2]
  repeat refine ⟨by first | omega | assumption | (simp only [maxLen]; omega) | (intros; omega) | decide, ?_⟩
  refine hK _ ?_
  clear hK K
  refine AWp.cond rfl (fun h12 => ?_) (fun h12 => ?_)
  · try simp at h12
    refine AWp.skip ?_
    repeat first | refine thenN ?_ | refine thenX ?_ | refine thenR ?_ | refine blockN ?_ | refine blockR ?_ | refine blockX ?_ | refine blockM rfl ?_
    refine AWp.seq ?_
    refine AWp.block ?_
    -- region 6
    refine AWp.rseq E_ok [0, 2, 3, 4, 5, 12, 16] fun K hK => ?_
    simp [ny_first, e1, e2]
    repeat refine ⟨by first | omega | assumption | (simp only [maxLen]; omega) | (intros; omega) | decide, ?_⟩
    refine meet.of (date_leap k (by omega)) ?_
    simp [ny_first, e1, e2]
    repeat refine ⟨by first | omega | assumption | (simp only [maxLen]; omega) | (intros; omega) | decide, ?_⟩
    refine hK _ ?_
    clear hK K
    refine AWp.cond rfl (fun h16 => ?_) (fun h16 => ?_)
    · try simp at h16
      -- region 7
      refine AWp.rend E_ok [0, 2, 3, 4, 5, 12, 16] fun K hK => ?_
      simp [ny_first, e1, e2]
      repeat refine ⟨by first | omega | assumption | (simp only [maxLen]; omega) | (intros; omega) | decide, ?_⟩
      refine hK _ ?_
      clear hK K
      repeat first | refine thenN ?_ | refine thenX ?_ | refine thenR ?_ | refine blockN ?_ | refine blockR ?_ | refine blockX ?_ | refine blockM rfl ?_
      -- region 5
      refine AWp.rend E_ok [0, 2, 3, 4, 5, 12, 16] fun K hK => ?_
      simp [ny_first, e1, e2]
      repeat refine ⟨by first | omega | assumption | (simp only [maxLen]; omega) | (intros; omega) | decide, ?_⟩
      refine hK _ ?_
      clear hK K
      repeat first | refine thenN ?_ | refine thenX ?_ | refine thenR ?_ | refine blockN ?_ | refine blockR ?_ | refine blockX ?_ | refine blockM rfl ?_
      have hw : IntKind.i64.wrap (k + 1) = k + 1 := by rw [wrap_i64] <;> omega
      have st := ny_step hk (by omega)
      have hr2 := ny_rng hk (by omega)
      refine ⟨⟨k + 1, by omega, by omega⟩, ?_, by simp only; omega⟩
      first | (have hw2 : IntKind.i64.wrap ((y - 1900) * 365 + (nyD k - 365 * (k - 1900)) + 1) = (y - 1900) * 365 + (nyD k - 365 * (k - 1900)) + 1 := by rw [wrap_i64] <;> omega) | skip
      simp [Weak, TW, hw, hw2]
      simp [yearD, h16] at st
      omega
    · try simp at h16
      refine AWp.skip ?_
      repeat first | refine thenN ?_ | refine thenX ?_ | refine thenR ?_ | refine blockN ?_ | refine blockR ?_ | refine blockX ?_ | refine blockM rfl ?_
      -- region 5
      refine AWp.rend E_ok [0, 2, 3, 4, 5, 12, 16] fun K hK => ?_
      simp [ny_first, e1, e2]
      repeat refine ⟨by first | omega | assumption | (simp only [maxLen]; omega) | (intros; omega) | decide, ?_⟩
      refine hK _ ?_
      clear hK K
      repeat first | refine thenN ?_ | refine thenX ?_ | refine thenR ?_ | refine blockN ?_ | refine blockR ?_ | refine blockX ?_ | refine blockM rfl ?_
      have hw : IntKind.i64.wrap (k + 1) = k + 1 := by rw [wrap_i64] <;> omega
      have st := ny_step hk (by omega)
      have hr2 := ny_rng hk (by omega)
      refine ⟨⟨k + 1, by omega, by omega⟩, ?_, by simp only; omega⟩
      first | (have hw2 : IntKind.i64.wrap ((y - 1900) * 365 + (nyD k - 365 * (k - 1900)) + 1) = (y - 1900) * 365 + (nyD k - 365 * (k - 1900)) + 1 := by rw [wrap_i64] <;> omega) | skip
      simp [Weak, TW, hw, hw2]
      simp [yearD, h16] at st
      omega
  · try simp at h12
    refine AWp.exit ?_
    repeat first | refine thenN ?_ | refine thenX ?_ | refine thenR ?_ | refine blockN ?_ | refine blockR ?_ | refine blockX ?_ | refine blockM rfl ?_
    -- region 8
    refine AWp.rseq E_ok [0, 2, 3, 4, 5, 12, 16] fun K hK => ?_
    simp [ny_first, e1, e2]
    repeat refine ⟨by first | omega | assumption | (simp only [maxLen]; omega) | (intros; omega) | decide, ?_⟩
    refine hK _ ?_
    clear hK K
    refine AWp.ret ?_
    repeat first | refine thenN ?_ | refine thenX ?_ | refine thenR ?_ | refine blockN ?_ | refine blockR ?_ | refine blockX ?_ | refine blockM rfl ?_
    obtain rfl : k = y := (by omega); simp [RetOk, RV, RVs]; omega
end Go.Proofs.Ytceapemkefaicaa

set_option maxRecDepth 100000
set_option linter.unusedSimpArgs false
set_option linter.unusedVariables false
namespace Go.Proofs.Ytceapemkefaicaa
open Go Ab Pl
theorem date_before (y m : Int) (hy : 1900 ≤ y ∧ y ≤ 2199) (hm : 1 ≤ m ∧ m ≤ 12) : ACalls E.P 94 [.int .i64 y, .int .i64 m] (.d (.int .i64 (befD y m))) := by
  refine ACalls.intro E_ok Try.func94 rfl rfl Try.ntmps94 Try.results94 (Nat.le_of_ble_eq_true rfl) fun hok base S0 w0 => ?_
  have e1 : IntKind.i64.wrap (m - 1) = m - 1 := by rw [wrap_i64] <;> omega
  have tg := bef_arr (m := m) (by omega)
  have br := befT_rng m
  have e2 : IntKind.i64.wrap (befT m + 1) = befT m + 1 := by rw [wrap_i64] <;> omega
  -- region 0
  refine AWp.rseq E_ok [0, 1, 4, 5, 15] fun K hK => ?_
  simp [e1, tg, e2]
  repeat refine ⟨by first | omega | assumption | (simp only [maxLen]; omega) | (intros; omega) | decide, ?_⟩
  refine hK _ ?_
  clear hK K
  -- region 1
  refine AWp.rseq E_ok [0, 1, 4, 5, 15] fun K hK => ?_
  simp [e1, tg, e2]
  repeat refine ⟨by first | omega | assumption | (simp only [maxLen]; omega) | (intros; omega) | decide, ?_⟩
  refine hK _ ?_
  clear hK K
  refine AWp.seq ?_
  -- region 2
  refine AWp.rseq E_ok [0, 1, 4, 5, 15] fun K hK => ?_
  simp [e1, tg, e2]
  repeat refine ⟨by first | omega | assumption | (simp only [maxLen]; omega) | (intros; omega) | decide, ?_⟩
  refine meet.of (date_leap y (by omega)) ?_
  simp [e1, tg, e2]
  repeat refine ⟨by first | omega | assumption | (simp only [maxLen]; omega) | (intros; omega) | decide, ?_⟩
  refine hK _ ?_
  clear hK K
  refine AWp.cond rfl (fun h15 => ?_) (fun h15 => ?_)
  · try simp at h15
    have hb : befD y m = befT m + 1 := by unfold befD; rw [if_pos h15]
    -- region 3
    refine AWp.rend E_ok [0, 1, 4, 5, 15] fun K hK => ?_
    simp [e1, tg, e2]
    repeat refine ⟨by first | omega | assumption | (simp only [maxLen]; omega) | (intros; omega) | decide, ?_⟩
    refine hK _ ?_
    clear hK K
    repeat first | refine thenN ?_ | refine thenX ?_ | refine thenR ?_ | refine blockN ?_ | refine blockR ?_ | refine blockX ?_ | refine blockM rfl ?_
    -- region 4
    refine AWp.rseq E_ok [0, 1, 4, 5, 15] fun K hK => ?_
    simp [e1, tg, e2]
    repeat refine ⟨by first | omega | assumption | (simp only [maxLen]; omega) | (intros; omega) | decide, ?_⟩
    refine hK _ ?_
    clear hK K
    refine AWp.ret ?_
    repeat first | refine thenN ?_ | refine thenX ?_ | refine thenR ?_ | refine blockN ?_ | refine blockR ?_ | refine blockX ?_ | refine blockM rfl ?_
    simp [RetOk, RV, RVs, hb]
  · try simp at h15
    have hb : befD y m = befT m := by unfold befD; rw [if_neg (by simpa using h15)]; omega
    refine AWp.skip ?_
    repeat first | refine thenN ?_ | refine thenX ?_ | refine thenR ?_ | refine blockN ?_ | refine blockR ?_ | refine blockX ?_ | refine blockM rfl ?_
    -- region 4
    refine AWp.rseq E_ok [0, 1, 4, 5, 15] fun K hK => ?_
    simp [e1, tg, e2]
    repeat refine ⟨by first | omega | assumption | (simp only [maxLen]; omega) | (intros; omega) | decide, ?_⟩
    refine hK _ ?_
    clear hK K
    refine AWp.ret ?_
    repeat first | refine thenN ?_ | refine thenX ?_ | refine thenR ?_ | refine blockN ?_ | refine blockR ?_ | refine blockX ?_ | refine blockM rfl ?_
    simp [RetOk, RV, RVs, hb]
end Go.Proofs.Ytceapemkefaicaa

set_option maxRecDepth 100000
set_option linter.unusedSimpArgs false
set_option linter.unusedVariables false
namespace Go.Proofs.Ytceapemkefaicaa
open Go Ab Pl
theorem date_Parts (day : Int) : ACalls E.P 86 [.int .i64 day] (.tup [.int .i64 (partsR day).1, .int .i64 (partsR day).2.1, .int .i64 (partsR day).2.2.1, .int .i64 (partsR day).2.2.2]) := by
  refine ACalls.intro E_ok Try.func86 rfl rfl Try.ntmps86 Try.results86 (Nat.le_of_ble_eq_true rfl) fun hok base S0 w0 => ?_
  -- region 0
  refine AWp.rseq E_ok [0, 2, 3, 4, 5, 6, 7, 8, 11, 23, 34] fun K hK => ?_
  simp [isDay]
  try simp (disch := omega) only [wrap_i64]
  repeat refine ⟨by first | omega | assumption | (simp only [maxLen]; omega) | (intros; omega) | decide, ?_⟩
  refine hK _ ?_
  clear hK K
  refine AWp.seq ?_
  -- region 1
  refine AWp.rseq E_ok [0, 2, 3, 4, 5, 6, 7, 8, 11, 23, 34] fun K hK => ?_
  simp [isDay]
  try simp (disch := omega) only [wrap_i64]
  repeat refine ⟨by first | omega | assumption | (simp only [maxLen]; omega) | (intros; omega) | decide, ?_⟩
  refine meet.of (date_known day) ?_
  simp [isDay]
  try simp (disch := omega) only [wrap_i64]
  repeat refine ⟨by first | omega | assumption | (simp only [maxLen]; omega) | (intros; omega) | decide, ?_⟩
  refine hK _ ?_
  clear hK K
  refine AWp.cond rfl (fun h11 => ?_) (fun h11 => ?_)
  · try simp at h11
    -- region 2
    refine AWp.rseq E_ok [0, 2, 3, 4, 5, 6, 7, 8, 11, 23, 34] fun K hK => ?_
    simp [isDay]
    try simp (disch := omega) only [wrap_i64]
    repeat refine ⟨by first | omega | assumption | (simp only [maxLen]; omega) | (intros; omega) | decide, ?_⟩
    refine hK _ ?_
    clear hK K
    refine AWp.ret ?_
    repeat first | refine thenN ?_ | refine thenX ?_ | refine thenR ?_ | refine blockN ?_ | refine blockR ?_ | refine blockX ?_ | refine blockM rfl ?_
    first | (rw [partsR_bad (by omega)]; simp [RetOk, RV, RVs]; done) | (rw [partsR_ok (by omega)]; simp [RetOk, RV, RVs, hp])
  · try simp at h11
    have e0 : day.tdiv 366 = day / 366 := Int.tdiv_eq_ediv_of_nonneg (by omega)
    have e1 : IntKind.i64.wrap (day / 366) = day / 366 := by rw [wrap_i64] <;> omega
    have e2 : IntKind.i64.wrap (1900 + day / 366) = 1900 + day / 366 := by rw [wrap_i64] <;> omega
    refine AWp.skip ?_
    repeat first | refine thenN ?_ | refine thenX ?_ | refine thenR ?_ | refine blockN ?_ | refine blockR ?_ | refine blockX ?_ | refine blockM rfl ?_
    -- region 3
    refine AWp.rseq E_ok [0, 2, 3, 4, 5, 6, 7, 8, 11, 23, 34] fun K hK => ?_
    simp [isDay, e0, e1, e2]
    try simp (disch := omega) only [wrap_i64]
    repeat refine ⟨by first | omega | assumption | (simp only [maxLen]; omega) | (intros; omega) | decide, ?_⟩
    refine hK _ ?_
    clear hK K
    refine AWp.seq ?_
    refine AWp.block ?_
    refine AWp.loop (ι := { y : Int // 1900 ≤ y ∧ y ≤ 2199 ∧ nyD y ≤ day }) (fun x => match x with | ⟨y, hy⟩ => [(0, T.val (D.int IntKind.i64 day)), (6, T.val (.int .i64 y))]) (fun x => match x with | ⟨y, hy⟩ => (2200 - y).toNat) ⟨1900 + day / 366, by omega, by omega, by have := ny_rng (y := 1900 + day / 366) (by omega) (by omega); omega⟩ ?_ ?_
    · simp [Weak, TW, isDay]
    rintro ⟨y, hy⟩
    simp only
    try simp only at hy
    refine AWp.seq ?_
    -- region 4
    refine AWp.rseq E_ok [0, 2, 3, 4, 5, 6, 7, 8, 11, 23, 34] fun K hK => ?_
    simp [isDay, e0, e1, e2]
    try simp (disch := omega) only [wrap_i64]
    repeat refine ⟨by first | omega | assumption | (simp only [maxLen]; omega) | (intros; omega) | decide, ?_⟩
    refine meet.of (date_newYear (y + 1) (by omega)) ?_
    simp [isDay, e0, e1, e2]
    try simp (disch := omega) only [wrap_i64]
    repeat refine ⟨by first | omega | assumption | (simp only [maxLen]; omega) | (intros; omega) | decide, ?_⟩
    refine hK _ ?_
    clear hK K
    refine AWp.cond rfl (fun h23 => ?_) (fun h23 => ?_)
    · try simp at h23
      refine AWp.skip ?_
      repeat first | refine thenN ?_ | refine thenX ?_ | refine thenR ?_ | refine blockN ?_ | refine blockR ?_ | refine blockX ?_ | refine blockM rfl ?_
      refine AWp.block ?_
      -- region 5
      refine AWp.rend E_ok [0, 2, 3, 4, 5, 6, 7, 8, 11, 23, 34] fun K hK => ?_
      simp [isDay, e0, e1, e2]
      try simp (disch := omega) only [wrap_i64]
      repeat refine ⟨by first | omega | assumption | (simp only [maxLen]; omega) | (intros; omega) | decide, ?_⟩
      refine hK _ ?_
      clear hK K
      repeat first | refine thenN ?_ | refine thenX ?_ | refine thenR ?_ | refine blockN ?_ | refine blockR ?_ | refine blockX ?_ | refine blockM rfl ?_
      refine ⟨⟨y + 1, by omega, by omega, by omega⟩, ?_, by simp only; omega⟩
      have hw : IntKind.i64.wrap (y + 1) = y + 1 := by rw [wrap_i64] <;> omega
      simp [Weak, TW, hw]
    · try simp at h23
      have hy3 : day < nyD (y + 1) := by rcases (show y < 2199 ∨ y = 2199 by omega) with hh | hh <;> first | (have := h23 hh; omega) | (rw [show y + 1 = 2200 by omega, ny_end]; omega)
      have nr := ny_rng hy.1 (by omega)
      have e3 : IntKind.i64.wrap (day - nyD y) = day - nyD y := by rw [wrap_i64] <;> omega
      have st := ny_step hy.1 hy.2.1
      have be := bef_end hy.1 hy.2.1
      refine AWp.exit ?_
      repeat first | refine thenN ?_ | refine thenX ?_ | refine thenR ?_ | refine blockN ?_ | refine blockR ?_ | refine blockX ?_ | refine blockM rfl ?_
      -- region 6
      refine AWp.rseq E_ok [0, 2, 3, 4, 5, 6, 7, 8, 11, 23, 34] fun K hK => ?_
      simp [isDay, e0, e1, e2, e3]
      try simp (disch := omega) only [wrap_i64]
      repeat refine ⟨by first | omega | assumption | (simp only [maxLen]; omega) | (intros; omega) | decide, ?_⟩
      refine meet.of (date_newYear y (by omega)) ?_
      simp [isDay, e0, e1, e2, e3]
      try simp (disch := omega) only [wrap_i64]
      repeat refine ⟨by first | omega | assumption | (simp only [maxLen]; omega) | (intros; omega) | decide, ?_⟩
      refine hK _ ?_
      clear hK K
      -- region 7
      refine AWp.rseq E_ok [0, 2, 3, 4, 5, 6, 7, 8, 11, 23, 34] fun K hK => ?_
      simp [isDay, e0, e1, e2, e3]
      try simp (disch := omega) only [wrap_i64]
      repeat refine ⟨by first | omega | assumption | (simp only [maxLen]; omega) | (intros; omega) | decide, ?_⟩
      refine hK _ ?_
      clear hK K
      refine AWp.seq ?_
      refine AWp.block ?_
      refine AWp.loop (ι := { m : Int // 1 ≤ m ∧ m ≤ 12 ∧ day - nyD y < befD y (m + 1) }) (fun x => match x with | ⟨m, hm⟩ => [(0, T.val (D.int IntKind.i64 day)), (6, T.val (D.int IntKind.i64 y)), (7, T.val (D.int IntKind.i64 (day - nyD y))), (8, T.val (.int .i64 m))]) (fun x => match x with | ⟨m, hm⟩ => m.toNat) ⟨12, by omega, by omega, by rw [show (12 : Int) + 1 = 13 from rfl, be]; omega⟩ ?_ ?_
      · simp [Weak, TW, isDay]
      rintro ⟨m, hm⟩
      simp only
      try simp only at hm
      refine AWp.seq ?_
      -- region 8
      refine AWp.rseq E_ok [0, 2, 3, 4, 5, 6, 7, 8, 11, 23, 34] fun K hK => ?_
      simp [isDay, e0, e1, e2, e3]
      try simp (disch := omega) only [wrap_i64]
      repeat refine ⟨by first | omega | assumption | (simp only [maxLen]; omega) | (intros; omega) | decide, ?_⟩
      refine meet.of (date_before y m (by omega) (by omega)) ?_
      simp [isDay, e0, e1, e2, e3]
      try simp (disch := omega) only [wrap_i64]
      repeat refine ⟨by first | omega | assumption | (simp only [maxLen]; omega) | (intros; omega) | decide, ?_⟩
      refine hK _ ?_
      clear hK K
      refine AWp.cond rfl (fun h34 => ?_) (fun h34 => ?_)
      · try simp at h34
        refine AWp.skip ?_
        repeat first | refine thenN ?_ | refine thenX ?_ | refine thenR ?_ | refine blockN ?_ | refine blockR ?_ | refine blockX ?_ | refine blockM rfl ?_
        refine AWp.block ?_
        -- region 9
        refine AWp.rend E_ok [0, 2, 3, 4, 5, 6, 7, 8, 11, 23, 34] fun K hK => ?_
        simp [isDay, e0, e1, e2, e3]
        try simp (disch := omega) only [wrap_i64]
        repeat refine ⟨by first | omega | assumption | (simp only [maxLen]; omega) | (intros; omega) | decide, ?_⟩
        refine hK _ ?_
        clear hK K
        repeat first | refine thenN ?_ | refine thenX ?_ | refine thenR ?_ | refine blockN ?_ | refine blockR ?_ | refine blockX ?_ | refine blockM rfl ?_
        have hm2 : 2 ≤ m := by rcases (show 2 ≤ m ∨ m = 1 by omega) with hh | hh <;> first | exact hh | (exfalso; subst hh; rw [bef_first] at h34; omega)
        refine ⟨⟨m - 1, by omega, by omega, by rw [show m - 1 + 1 = m by omega]; omega⟩, ?_, by simp only; omega⟩
        have hw : IntKind.i64.wrap (m - 1) = m - 1 := by rw [wrap_i64] <;> omega
        simp [Weak, TW, hw]
      · try simp at h34
        have b1 := bef_mono (y := y) (m := 1) (n := m) (by omega) (by omega) hm.1
        rw [bef_first] at b1
        have hp := parts_eq (parts_mk hy.1 hy.2.1 hm.1 hm.2.1 (day := day) (by omega) (by omega))
        have e4 : IntKind.i64.wrap (day - nyD y - befD y m) = day - nyD y - befD y m := by rw [wrap_i64] <;> omega
        have e5 : IntKind.i64.wrap (day - nyD y - befD y m + 1) = day - nyD y - befD y m + 1 := by rw [wrap_i64] <;> omega
        refine AWp.exit ?_
        repeat first | refine thenN ?_ | refine thenX ?_ | refine thenR ?_ | refine blockN ?_ | refine blockR ?_ | refine blockX ?_ | refine blockM rfl ?_
        -- region 10
        refine AWp.rseq E_ok [0, 2, 3, 4, 5, 6, 7, 8, 11, 23, 34] fun K hK => ?_
        simp [isDay, e0, e1, e2, e3, e4, e5]
        try simp (disch := omega) only [wrap_i64]
        repeat refine ⟨by first | omega | assumption | (simp only [maxLen]; omega) | (intros; omega) | decide, ?_⟩
        refine meet.of (date_before y m (by omega) (by omega)) ?_
        simp [isDay, e0, e1, e2, e3, e4, e5]
        try simp (disch := omega) only [wrap_i64]
        repeat refine ⟨by first | omega | assumption | (simp only [maxLen]; omega) | (intros; omega) | decide, ?_⟩
        refine hK _ ?_
        clear hK K
        refine AWp.ret ?_
        repeat first | refine thenN ?_ | refine thenX ?_ | refine thenR ?_ | refine blockN ?_ | refine blockR ?_ | refine blockX ?_ | refine blockM rfl ?_
        first | (rw [partsR_bad (by omega)]; simp [RetOk, RV, RVs]; done) | (rw [partsR_ok (by omega)]; simp [RetOk, RV, RVs, hp])
end Go.Proofs.Ytceapemkefaicaa

set_option maxRecDepth 100000
set_option linter.unusedSimpArgs false
set_option linter.unusedVariables false
namespace Go.Proofs.Ytceapemkefaicaa
open Go Ab Pl
theorem date_Length (y m : Int) : ACalls E.P 97 [.int .i64 y, .int .i64 m] (.d (.int .i64 (mlenD y m))) := by
  refine ACalls.intro E_ok Try.func97 rfl rfl Try.ntmps97 Try.results97 (Nat.le_of_ble_eq_true rfl) fun hok base S0 w0 => ?_
  -- region 0
  refine AWp.rseq E_ok [0, 1, 4, 5, 20] fun K hK => ?_
  simp
  repeat refine ⟨by first | omega | assumption | (simp only [maxLen]; omega) | (intros; omega) | decide, ?_⟩
  refine hK _ ?_
  clear hK K
  refine AWp.seq ?_
  refine AWp.block ?_
  -- region 1
  refine AWp.rseq E_ok [0, 1, 4, 5, 20] fun K hK => ?_
  simp
  repeat refine ⟨by first | omega | assumption | (simp only [maxLen]; omega) | (intros; omega) | decide, ?_⟩
  refine hK _ ?_
  clear hK K
  refine AWp.cond rfl (fun h5 => ?_) (fun h5 => ?_)
  · try simp at h5
    -- region 2
    refine AWp.rseq E_ok [0, 1, 4, 5, 20] fun K hK => ?_
    simp
    repeat refine ⟨by first | omega | assumption | (simp only [maxLen]; omega) | (intros; omega) | decide, ?_⟩
    refine hK _ ?_
    clear hK K
    refine AWp.ret ?_
    repeat first | refine thenN ?_ | refine thenX ?_ | refine thenR ?_ | refine blockN ?_ | refine blockR ?_ | refine blockX ?_ | refine blockM rfl ?_
    first | (rw [mlen_out (by omega)]; simp [RetOk, RV, RVs]; done) | (rw [hq]; simp [RetOk, RV, RVs]; done)
  · try simp at h5
    -- region 3
    refine AWp.rseq E_ok [0, 1, 4, 5, 20] fun K hK => ?_
    simp
    repeat refine ⟨by first | omega | assumption | (simp only [maxLen]; omega) | (intros; omega) | decide, ?_⟩
    refine meet.of (date_leap y (by omega)) ?_
    simp
    repeat refine ⟨by first | omega | assumption | (simp only [maxLen]; omega) | (intros; omega) | decide, ?_⟩
    refine hK _ ?_
    clear hK K
    refine AWp.cond rfl (fun h20 => ?_) (fun h20 => ?_)
    · try simp at h20
      have hq := mlen_29 (y := y) (m := m) (by omega) (by omega) h20.1 h20.2
      -- region 4
      refine AWp.rseq E_ok [0, 1, 4, 5, 20] fun K hK => ?_
      simp
      repeat refine ⟨by first | omega | assumption | (simp only [maxLen]; omega) | (intros; omega) | decide, ?_⟩
      refine hK _ ?_
      clear hK K
      refine AWp.ret ?_
      repeat first | refine thenN ?_ | refine thenX ?_ | refine thenR ?_ | refine blockN ?_ | refine blockR ?_ | refine blockX ?_ | refine blockM rfl ?_
      first | (rw [mlen_out (by omega)]; simp [RetOk, RV, RVs]; done) | (rw [hq]; simp [RetOk, RV, RVs]; done)
    · try simp at h20
      have hq := mlen_tbl (y := y) (m := m) (by omega) (by omega) (by omega) (by omega) (by simpa using h20)
      have e1 : IntKind.i64.wrap (m - 1) = m - 1 := by rw [wrap_i64] <;> omega
      have tg := tbl_arr (m := m) (by omega)
      refine AWp.skip ?_
      repeat first | refine thenN ?_ | refine thenX ?_ | refine thenR ?_ | refine blockN ?_ | refine blockR ?_ | refine blockX ?_ | refine blockM rfl ?_
      -- region 5
      refine AWp.rseq E_ok [0, 1, 4, 5, 20] fun K hK => ?_
      simp [e1, tg]
      repeat refine ⟨by first | omega | assumption | (simp only [maxLen]; omega) | (intros; omega) | decide, ?_⟩
      refine hK _ ?_
      clear hK K
      refine AWp.ret ?_
      repeat first | refine thenN ?_ | refine thenX ?_ | refine thenR ?_ | refine blockN ?_ | refine blockR ?_ | refine blockX ?_ | refine blockM rfl ?_
      first | (rw [mlen_out (by omega)]; simp [RetOk, RV, RVs]; done) | (rw [hq]; simp [RetOk, RV, RVs]; done)
end Go.Proofs.Ytceapemkefaicaa

set_option maxRecDepth 100000
set_option linter.unusedSimpArgs false
set_option linter.unusedVariables false
namespace Go.Proofs.Ytceapemkefaicaa
open Go Ab Pl
theorem date_Of (y m d : Int) : ACalls E.P 96 [.int .i64 y, .int .i64 m, .int .i64 d] (.tup [.int .i64 (ofR y m d).1, .int .i64 (ofR y m d).2]) := by
  refine ACalls.intro E_ok Try.func96 rfl rfl Try.ntmps96 Try.results96 (Nat.le_of_ble_eq_true rfl) fun hok base S0 w0 => ?_
  -- region 0
  refine AWp.rseq E_ok [0, 1, 2, 6, 7, 16] fun K hK => ?_
  simp
  repeat refine ⟨by first | omega | assumption | (simp only [maxLen]; omega) | (intros; omega) | decide, ?_⟩
  refine hK _ ?_
  clear hK K
  refine AWp.seq ?_
  -- region 1
  refine AWp.rseq E_ok [0, 1, 2, 6, 7, 16] fun K hK => ?_
  simp
  repeat refine ⟨by first | omega | assumption | (simp only [maxLen]; omega) | (intros; omega) | decide, ?_⟩
  refine meet.of (date_Length y m) ?_
  simp
  repeat refine ⟨by first | omega | assumption | (simp only [maxLen]; omega) | (intros; omega) | decide, ?_⟩
  refine hK _ ?_
  clear hK K
  refine AWp.cond rfl (fun h16 => ?_) (fun h16 => ?_)
  · try simp at h16
    have hb := of_bad h16
    -- region 2
    refine AWp.rseq E_ok [0, 1, 2, 6, 7, 16] fun K hK => ?_
    simp
    repeat refine ⟨by first | omega | assumption | (simp only [maxLen]; omega) | (intros; omega) | decide, ?_⟩
    refine hK _ ?_
    clear hK K
    refine AWp.ret ?_
    repeat first | refine thenN ?_ | refine thenX ?_ | refine thenR ?_ | refine blockN ?_ | refine blockR ?_ | refine blockX ?_ | refine blockM rfl ?_
    first | (simp [RetOk, RV, RVs, hb]; done) | (rw [of_ok (by omega) (by omega)]; simp [RetOk, RV, RVs, dayD])
  · try simp at h16
    have hin := mlen_in (y := y) (m := m) (d := d) (by omega) (by omega)
    have ml := mlen_rng hin.1.1 hin.1.2 hin.2.1 hin.2.2
    have nr := ny_rng hin.1.1 (by omega)
    have b1 := bef_mono (y := y) (m := 1) (n := m) (by omega) (by omega) hin.2.1
    have b2 := bef_mono (y := y) (m := m) (n := 13) (by omega) hin.2.1 (by omega)
    rw [bef_first] at b1
    rw [bef_end hin.1.1 hin.1.2] at b2
    have yp := year_pos y
    have e1 : IntKind.i64.wrap (nyD y + befD y m) = nyD y + befD y m := by rw [wrap_i64] <;> omega
    have e2 : IntKind.i64.wrap (nyD y + befD y m + d) = nyD y + befD y m + d := by rw [wrap_i64] <;> omega
    have e3 : IntKind.i64.wrap (nyD y + befD y m + d - 1) = nyD y + befD y m + d - 1 := by rw [wrap_i64] <;> omega
    refine AWp.skip ?_
    repeat first | refine thenN ?_ | refine thenX ?_ | refine thenR ?_ | refine blockN ?_ | refine blockR ?_ | refine blockX ?_ | refine blockM rfl ?_
    -- region 3
    refine AWp.rseq E_ok [0, 1, 2, 6, 7, 16] fun K hK => ?_
    simp [e1, e2, e3]
    repeat refine ⟨by first | omega | assumption | (simp only [maxLen]; omega) | (intros; omega) | decide, ?_⟩
    refine meet.of (date_newYear y (by omega)) ?_
    simp [e1, e2, e3]
    repeat refine ⟨by first | omega | assumption | (simp only [maxLen]; omega) | (intros; omega) | decide, ?_⟩
    refine meet.of (date_before y m (by omega) (by omega)) ?_
    simp [e1, e2, e3]
    repeat refine ⟨by first | omega | assumption | (simp only [maxLen]; omega) | (intros; omega) | decide, ?_⟩
    refine hK _ ?_
    clear hK K
    refine AWp.ret ?_
    repeat first | refine thenN ?_ | refine thenX ?_ | refine thenR ?_ | refine blockN ?_ | refine blockR ?_ | refine blockX ?_ | refine blockM rfl ?_
    first | (simp [RetOk, RV, RVs, hb]; done) | (rw [of_ok (by omega) (by omega)]; simp [RetOk, RV, RVs, dayD])
end Go.Proofs.Ytceapemkefaicaa
