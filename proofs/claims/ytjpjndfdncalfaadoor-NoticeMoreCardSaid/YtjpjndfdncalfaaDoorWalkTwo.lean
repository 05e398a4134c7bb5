/-
  What the functions compute that the statement reaches: contracts, and the plain laws between them. Conditions stand at each theorem.
-/
import Derived.Test.YtjpjndfdncalfaaDoorWalkOne
import Derived.Lib.ItoaLen
import Derived.Lib.Atoi
import Derived.Lib.Repeat
set_option linter.unusedVariables false
set_option linter.unusedSimpArgs false
/- Notices: the state's other parts, and what the functions of the chapter compute. -/
namespace Pl
open Go Ab
set_option linter.unusedVariables false

def encNotes (l : List Note) : D := .slice (encNote zn) (noteL l)
theorem encNotes_eq (l : List Note) : encNotes l = .slice (encNote zn) (noteL l) := rfl
theorem encNotes_map (l : List Note) : encNotes l = .slice (encNote zn) (l.map encNote) := rfl

structure Patr where
  id : Int
  kind : Int
  br : Int
  til : Int
  stop : Bool
  name : List UInt8
  deriving DecidableEq
def encPatr (p : Patr) : D := .agg [.int .i64 p.id, .int .i64 p.kind, .int .i64 p.br, .int .i64 p.til, .bool p.stop, .str p.name]
theorem encPatr_eq (p : Patr) : encPatr p = .agg [.int .i64 p.id, .int .i64 p.kind, .int .i64 p.br, .int .i64 p.til, .bool p.stop, .str p.name] := rfl
def zPatr : Patr := ⟨0, 0, 0, 0, false, []⟩
def encPatrs (l : List Patr) : D := .slice (encPatr zPatr) (l.map encPatr)
theorem encPatrs_eq (l : List Patr) : encPatrs l = .slice (encPatr zPatr) (l.map encPatr) := rfl

structure Itm where
  id : Int
  rcd : Int
  br : Int
  kind : Int
  price : Int
  call : List UInt8
  cus : Custody
def encItm (x : Itm) : D := .agg [.int .i64 x.id, .int .i64 x.rcd, .int .i64 x.br, .int .i64 x.kind, .int .i64 x.price, .str x.call, .int .i64 x.cus.st, .int .i64 x.cus.br, .int .i64 x.cus.who, .int .i64 x.cus.gto]
def zItm : Itm := ⟨0, 0, 0, 0, 0, [], ⟨0, 0, 0, 0⟩⟩
def encItms (l : List Itm) : D := .slice (encItm zItm) (l.map encItm)
theorem encItms_eq (l : List Itm) : encItms l = .slice (encItm zItm) (l.map encItm) := rfl

def zLoan : Loan := ⟨0, 0, 0, 0, 0, false⟩
def encLoans (l : List Loan) : D := .slice (encLoan zLoan) (l.map encLoan)
theorem encLoans_eq (l : List Loan) : encLoans l = .slice (encLoan zLoan) (l.map encLoan) := rfl

structure Hld where
  id : Int
  patron : Int
  rcd : Int
  item : Int
  pick : Int
  placed : Int
  st : Int
  got : Int
  til : Int
  asleep : Int
  rank : Int
def encHld (h : Hld) : D := .agg [.int .i64 h.id, .int .i64 h.patron, .int .i64 h.rcd, .int .i64 h.item, .int .i64 h.pick, .int .i64 h.placed, .int .i64 h.st, .int .i64 h.got, .int .i64 h.til, .int .i64 h.asleep, .int .i64 h.rank]
theorem encHld_eq (h : Hld) : encHld h = .agg [.int .i64 h.id, .int .i64 h.patron, .int .i64 h.rcd, .int .i64 h.item, .int .i64 h.pick, .int .i64 h.placed, .int .i64 h.st, .int .i64 h.got, .int .i64 h.til, .int .i64 h.asleep, .int .i64 h.rank] := rfl
def zHld : Hld := ⟨0, 0, 0, 0, 0, 0, 0, 0, 0, 0, 0⟩
def encHlds (l : List Hld) : D := .slice (encHld zHld) (l.map encHld)
theorem encHlds_eq (l : List Hld) : encHlds l = .slice (encHld zHld) (l.map encHld) := rfl

structure Cals where
  c0 : Cal
  c1 : Cal
  c2 : Cal
  c3 : Cal
structure Circ where
  today : Int
  items : List Itm
  patrons : List Patr
  loans : List Loan
  holds : List Hld
  charges : List Charge
  rules : List Rule
  cals : Cals
  moves : List Mv
  nh : Int
  nc : Int
  loc : Bool
def encCirc (c : Circ) : D := .agg [.int .i64 c.today, encItms c.items, encPatrs c.patrons, encLoans c.loans, encHlds c.holds, encCharges c.charges, encRules c.rules,
  .int .i64 c.cals.c0.week, encInts c.cals.c0.closed, .int .i64 c.cals.c1.week, encInts c.cals.c1.closed, .int .i64 c.cals.c2.week, encInts c.cals.c2.closed, .int .i64 c.cals.c3.week, encInts c.cals.c3.closed,
  encMoves c.moves, .int .i64 c.nh, .int .i64 c.nc, .bool c.loc]
theorem encCirc_eq (c : Circ) : encCirc c = .agg [.int .i64 c.today, encItms c.items, encPatrs c.patrons, encLoans c.loans, encHlds c.holds, encCharges c.charges, encRules c.rules,
  .int .i64 c.cals.c0.week, encInts c.cals.c0.closed, .int .i64 c.cals.c1.week, encInts c.cals.c1.closed, .int .i64 c.cals.c2.week, encInts c.cals.c2.closed, .int .i64 c.cals.c3.week, encInts c.cals.c3.closed,
  encMoves c.moves, .int .i64 c.nh, .int .i64 c.nc, .bool c.loc] := rfl

/-- Two lists, place by place. -/
def samN : List Note → List Note → Bool
  | _, [] => true
  | [], _ :: _ => false
  | y :: b, x :: a => if x = y then samN b a else false
theorem samN_eq : ∀ (a b : List Note), a.length = b.length → samN b a = decide (a = b)
  | [], [], _ => by simp [samN]
  | x :: a, y :: b, h => by
    rw [samN, samN_eq a b (by simpa using h)]
    by_cases hxy : x = y
    · subst hxy; simp
    · simp [hxy]
theorem note_eq (x y : Note) : x = y ↔ ((x.kind = y.kind ∧ x.patron = y.patron) ∧ x.item = y.item) ∧ x.day = y.day := by
  cases x; cases y; simp [and_assoc]
/-- The notices of one patron. -/
def forF (p : Int) : List Note → List Note → List Note
  | o, [] => o
  | o, x :: l => forF p (if x.patron = p then o ++ [x] else o) l
def forN (l : List Note) (p : Int) : List Note := forF p [] l
theorem forF_eq (p : Int) : ∀ (l o : List Note), forF p o l = o ++ l.filter (fun x => decide (x.patron = p))
  | [], o => by simp [forF]
  | x :: l, o => by
    rw [forF, forF_eq p l]
    by_cases h : x.patron = p <;> simp [h]
theorem forN_eq (l : List Note) (p : Int) : forN l p = l.filter (fun x => decide (x.patron = p)) := by rw [forN, forF_eq]; simp
theorem forN_len (l : List Note) (p : Int) : (forN l p).length ≤ l.length := by rw [forN_eq]; exact List.length_filter_le _ _
/-- Five counts. -/
structure Cnt where
  c0 : Int
  c1 : Int
  c2 : Int
  c3 : Int
  c4 : Int
  deriving DecidableEq
def bump (c : Cnt) (k : Int) : Cnt :=
  if k = 1 then { c with c1 := c.c1 + 1 } else if k = 2 then { c with c2 := c.c2 + 1 } else if k = 3 then { c with c3 := c.c3 + 1 } else if k = 4 then { c with c4 := c.c4 + 1 } else { c with c0 := c.c0 + 1 }
def noCF : Cnt → List Note → Cnt
  | c, [] => c
  | c, x :: l => noCF (bump c x.kind) l
def noCN (l : List Note) : Cnt := noCF ⟨0, 0, 0, 0, 0⟩ l
def encCnt (c : Cnt) : D := .agg [.int .i64 c.c0, .int .i64 c.c1, .int .i64 c.c2, .int .i64 c.c3, .int .i64 c.c4]
theorem encCnt_eq (c : Cnt) : encCnt c = .agg [.int .i64 c.c0, .int .i64 c.c1, .int .i64 c.c2, .int .i64 c.c3, .int .i64 c.c4] := rfl
def Cle (c : Cnt) (k : Int) : Prop := (0 ≤ c.c0 ∧ c.c0 ≤ k) ∧ (0 ≤ c.c1 ∧ c.c1 ≤ k) ∧ (0 ≤ c.c2 ∧ c.c2 ≤ k) ∧ (0 ≤ c.c3 ∧ c.c3 ≤ k) ∧ (0 ≤ c.c4 ∧ c.c4 ≤ k)
theorem bump1 {c : Cnt} {k : Int} (h : k = 1) : bump c k = ⟨c.c0, c.c1 + 1, c.c2, c.c3, c.c4⟩ := by subst h; rfl
theorem bump2 {c : Cnt} {k : Int} (h : k = 2) : bump c k = ⟨c.c0, c.c1, c.c2 + 1, c.c3, c.c4⟩ := by subst h; rfl
theorem bump3 {c : Cnt} {k : Int} (h : k = 3) : bump c k = ⟨c.c0, c.c1, c.c2, c.c3 + 1, c.c4⟩ := by subst h; rfl
theorem bump4 {c : Cnt} {k : Int} (h : k = 4) : bump c k = ⟨c.c0, c.c1, c.c2, c.c3, c.c4 + 1⟩ := by subst h; rfl
theorem bump0 {c : Cnt} {k : Int} (h : k < 1 ∨ 4 < k) : bump c k = ⟨c.c0 + 1, c.c1, c.c2, c.c3, c.c4⟩ := by
  unfold bump; rw [if_neg (by omega), if_neg (by omega), if_neg (by omega), if_neg (by omega)]

/-- The notices of a day, in no order: the loans' and then the holds'. -/
def hldN (h : Hld) : List Note := if h.st = 3 then [⟨3, h.patron, h.got, h.til⟩] else []
def lnsN (l : List Loan) (t a : Int) : List Note := l.flatMap fun n => loanN n t a
def dueL (c : Circ) (a : Int) : List Note := lnsN c.loans c.today a ++ c.holds.flatMap hldN
def dueN (c : Circ) (a : Int) : List Note := stabM (dueL c a)
def lnF (t a : Int) : List Note → List Loan → List Note
  | o, [] => o
  | o, n :: l => lnF t a (o ++ loanN n t a) l
theorem lnF_eq (t a : Int) : ∀ (l : List Loan) (o : List Note), lnF t a o l = o ++ lnsN l t a
  | [], o => by simp [lnF, lnsN]
  | n :: l, o => by rw [lnF, lnF_eq t a l]; simp [lnsN]
def hlF : List Note → List Hld → List Note
  | o, [] => o
  | o, h :: l => hlF (o ++ hldN h) l
theorem hlF_eq : ∀ (l : List Hld) (o : List Note), hlF o l = o ++ l.flatMap hldN
  | [], o => by simp [hlF]
  | h :: l, o => by rw [hlF, hlF_eq l]; simp
theorem lnsN_len (t a : Int) : ∀ l : List Loan, (lnsN l t a).length ≤ 2 * l.length
  | [] => by simp [lnsN]
  | n :: l => by have h1 := lnsN_len t a l; have h2 := loanN_len n t a; simp only [lnsN, List.flatMap_cons, List.length_append, List.length_cons] at h1 ⊢; omega
theorem hldN_len (h : Hld) : (hldN h).length ≤ 1 := by unfold hldN; split <;> simp
theorem hls_len : ∀ l : List Hld, (l.flatMap hldN).length ≤ l.length
  | [] => by simp
  | h :: l => by have h1 := hls_len l; have h2 := hldN_len h; simp only [List.flatMap_cons, List.length_append, List.length_cons]; omega
theorem dueL_len (c : Circ) (a : Int) : (dueL c a).length ≤ 2 * c.loans.length + c.holds.length := by
  have h1 := lnsN_len c.today a c.loans
  have h2 := hls_len c.holds
  simp only [dueL, List.length_append]; omega
/-- The document's way. -/
def lnP (t a : Int) : List Note → List Loan → List Note
  | o, [] => o
  | o, n :: l => lnP t a ((loanN n t a).foldl putN o) l
theorem lnP_eq (t a : Int) : ∀ (l : List Loan) (o : List Note), lnP t a o l = (lnsN l t a).foldl putN o
  | [], o => by simp [lnP, lnsN]
  | n :: l, o => by rw [lnP, lnP_eq t a l]; simp [lnsN, List.foldl_append]
def hlP : List Note → List Hld → List Note
  | o, [] => o
  | o, h :: l => hlP ((hldN h).foldl putN o) l
theorem hlP_eq : ∀ (l : List Hld) (o : List Note), hlP o l = (l.flatMap hldN).foldl putN o
  | [], o => by simp [hlP]
  | h :: l, o => by rw [hlP, hlP_eq l]; simp [List.foldl_append]
theorem dueP_eq (c : Circ) (a : Int) : hlP (lnP c.today a [] c.loans) c.holds = dueN c a := by
  rw [hlP_eq, lnP_eq, ← List.foldl_append, dueN, stab_puts]; rfl
theorem putN_len (l : List Note) (n : Note) : (putN l n).length = l.length + 1 := by
  have : ∀ l : List Note, (puN n l).length = l.length + 1 := by
    intro l
    induction l with
    | nil => rfl
    | cons x l ih => simp only [puN]; split <;> simp [ih]
  simp [putN, this]
/-- Where Put puts: behind the last one that does not come after it. -/
def putK (l : List Note) (n : Note) : Nat → Nat
  | 0 => 0
  | k + 1 => if ltA' l n k = true then putK l n k else k + 1
where ltA' (l : List Note) (n : Note) (k : Nat) : Bool := ltN n (l.getD k zn)
theorem putK_le (l : List Note) (n : Note) (k : Nat) : putK l n k ≤ k := by
  induction k with
  | zero => exact Nat.le_refl _
  | succ k ih => rw [putK]; split <;> omega
theorem putK_eq (n : Note) : ∀ (k : Nat) (l : List Note), k ≤ l.length → puN n (l.take k).reverse = ((l.take k).drop (putK l n k)).reverse ++ n :: (l.take (putK l n k)).reverse := by
  intro k
  induction k with
  | zero => intro l _; simp [puN, putK]
  | succ k ih =>
    intro l hk
    have hx := List.getElem?_eq_getElem (l := l) (i := k) (by omega)
    have e : l.take (k + 1) = l.take k ++ [l[k]'(by omega)] := (List.take_append_getElem (by omega)).symm
    have hd : l.getD k zn = l[k]'(by omega) := by rw [List.getD_eq_getElem?_getD, hx]; rfl
    rw [e, List.reverse_append, List.reverse_singleton, List.singleton_append, puN, putK, putK.ltA', hd]
    by_cases h : ltN n (l[k]'(by omega)) = true
    · rw [if_pos h, if_pos h, ih l (by omega)]
      have hp := putK_le l n k
      rw [List.drop_append_of_le_length (by rw [List.length_take]; omega), List.reverse_append]
      simp
    · rw [if_neg h, if_neg h, ← e]
      have : (l.take (k + 1)).drop (k + 1) = [] := by apply List.drop_eq_nil_of_le; rw [List.length_take]; omega
      rw [this, e, List.reverse_append]; rfl
theorem putN_at (l : List Note) (n : Note) : putN l n = l.take (putK l n l.length) ++ n :: l.drop (putK l n l.length) := by
  have h := putK_eq n l.length l (Nat.le_refl _)
  rw [List.take_length] at h
  rw [putN, h]; simp
end Pl
namespace Pl
open Go Ab
theorem noteL_map (l : List Note) : noteL l = l.map encNote := rfl
theorem ltN_d1 {a b : Note} (h : ¬ a.patron = b.patron) : ltN a b = decide (a.patron < b.patron) := by
  rw [Bool.eq_iff_iff, ltN_iff, decide_eq_true_iff]; omega
theorem ltN_d2 {a b : Note} (h : a.patron = b.patron) (h2 : ¬ a.kind = b.kind) : ltN a b = decide (a.kind < b.kind) := by
  rw [Bool.eq_iff_iff, ltN_iff, decide_eq_true_iff]; omega
theorem ltN_d3 {a b : Note} (h : a.patron = b.patron) (h2 : a.kind = b.kind) : ltN a b = decide (a.item < b.item) := by
  rw [Bool.eq_iff_iff, ltN_iff, decide_eq_true_iff]; omega
theorem putK_go {l : List Note} {n x : Note} {k p : Nat} (hk : k = p + 1) (hx : l[p]? = some x) (h : ltN n x = true) : putK l n k = putK l n p := by
  subst hk; rw [putK, putK.ltA', List.getD_eq_getElem?_getD, hx]; exact if_pos h
theorem putK_no {l : List Note} {n x : Note} {k p : Nat} (hk : k = p + 1) (hx : l[p]? = some x) (h : ltN n x = false) : putK l n k = k := by
  subst hk; rw [putK, putK.ltA', List.getD_eq_getElem?_getD, hx]; exact if_neg (by simp [h])
end Pl
namespace Pl
open Go Ab
theorem loanP (x : Loan) (t a : Int) (o : List Note) : (loanN x t a).foldl putN o =
    (if x.due < t then putN (if x.rcl = true then putN o ⟨4, x.patron, x.item, x.due⟩ else o) ⟨2, x.patron, x.item, x.due⟩
     else if IntKind.i64.wrap (x.due - t) ≤ a then putN (if x.rcl = true then putN o ⟨4, x.patron, x.item, x.due⟩ else o) ⟨1, x.patron, x.item, x.due⟩
     else (if x.rcl = true then putN o ⟨4, x.patron, x.item, x.due⟩ else o)) := by
  unfold loanN
  rw [List.foldl_append]
  by_cases h1 : x.rcl = true
  · rw [if_pos h1, if_pos h1]
    split
    · rfl
    · split <;> rfl
  · rw [if_neg h1, if_neg h1]
    split
    · rfl
    · split <;> rfl
theorem hldP (x : Hld) (o : List Note) : (hldN x).foldl putN o = if x.st = 3 then putN o ⟨3, x.patron, x.got, x.til⟩ else o := by
  unfold hldN; split <;> rfl
theorem noteL_app (a b : List Note) : noteL (a ++ b) = noteL a ++ noteL b := by simp [noteL]
@[simp] theorem noteL_nil : noteL [] = [] := rfl
theorem noteL_one (x : Note) : noteL [x] = [encNote x] := rfl
end Pl
namespace Pl
open Go Ab
theorem hldN_y {x : Hld} (h : x.st = 3) : hldN x = [⟨3, x.patron, x.got, x.til⟩] := if_pos h
theorem hldN_n {x : Hld} (h : ¬ x.st = 3) : hldN x = [] := if_neg h
end Pl

/- Numbers as text. -/
namespace Pl
open Go Ab
set_option linter.unusedVariables false
set_option linter.unusedSimpArgs false
theorem dig_eq {x : Int} (h0 : 0 ≤ x) (h1 : x < 10) : Ab.byteOf (D.int IntKind.u8 (IntKind.u8.wrap (IntKind.i64.wrap (48 + x)))) = UInt8.ofNat (48 + x.toNat) := by
  rw [wrap_i64 (by omega) (by omega)]
  have e : IntKind.u8.wrap (48 + x) = 48 + x := by rw [IntKind.wrap_u8]; omega
  rw [e]
  have : (48 + x).toNat = 48 + x.toNat := by omega
  simp [Ab.byteOf, this]
theorem itoa_pos {n : Int} (h : 0 ≤ n) : Go.Lib.itoa n = Go.Lib.decDigits n.toNat := by unfold Go.Lib.itoa; rw [if_neg (by omega)]
end Pl

/- Dates: years, months and days. -/
namespace Pl
set_option linter.unusedVariables false
set_option linter.unusedSimpArgs false
def leapB (y : Int) : Bool := decide (y % 4 = 0 ∧ (¬ y % 100 = 0 ∨ y % 400 = 0))
theorem leap_iff {y : Int} (h : 1900 ≤ y) (h2 : y ≤ 2199) : leapB y = true ↔ (y % 4 = 0 ∧ ¬ y = 1900 ∧ ¬ y = 2100) := by
  unfold leapB; rw [decide_eq_true_iff]; omega
/-- the days ahead of a year -/
def nyD (y : Int) : Int := if y ≤ 1900 then 0 else 365 * (y - 1900) + (y - 1) / 4 - 475 - (if y ≤ 2100 then 0 else 1)
def yearD (y : Int) : Int := if leapB y = true then 366 else 365
theorem ny_step {y : Int} (h : 1900 ≤ y) (h2 : y ≤ 2199) : nyD (y + 1) = nyD y + yearD y := by
  unfold nyD yearD
  by_cases hl : leapB y = true
  · have := (leap_iff h h2).1 hl
    rw [if_pos hl]; repeat' split
    all_goals omega
  · have := mt (leap_iff h h2).2 hl
    rw [if_neg hl]; repeat' split
    all_goals omega
theorem year_pos (y : Int) : 365 ≤ yearD y ∧ yearD y ≤ 366 := by unfold yearD; split <;> omega
theorem ny_mono {y z : Int} (h : y ≤ z) : nyD y ≤ nyD z := by unfold nyD; repeat' split <;> omega
theorem ny_first : nyD 1900 = 0 := by decide
theorem ny_end : nyD 2200 = 109573 := by decide
theorem ny_rng {y : Int} (h : 1900 ≤ y) (h2 : y ≤ 2200) : 0 ≤ nyD y ∧ nyD y ≤ 109573 ∧ 365 * (y - 1900) ≤ nyD y ∧ nyD y ≤ 366 * (y - 1900) := by unfold nyD; repeat' split <;> omega
/-- the length of a month -/
def tblD (m : Int) : Int := if m = 2 then 28 else if m = 4 ∨ m = 6 ∨ m = 9 ∨ m = 11 then 30 else 31
def mlenD (y m : Int) : Int := if (y < 1900 ∨ 2199 < y) ∨ (m < 1 ∨ 12 < m) then 0 else if m = 2 ∧ leapB y = true then 29 else tblD m
/-- the days of a year ahead of a month -/
def befT (m : Int) : Int :=
  if m ≤ 1 then 0 else if m = 2 then 31 else if m = 3 then 59 else if m = 4 then 90 else if m = 5 then 120 else if m = 6 then 151 else if m = 7 then 181 else if m = 8 then 212 else if m = 9 then 243
  else if m = 10 then 273 else if m = 11 then 304 else if m = 12 then 334 else 365
def befD (y m : Int) : Int := befT m + (if 2 < m ∧ leapB y = true then 1 else 0)
theorem mlen_ok {y m : Int} (hy : 1900 ≤ y) (hy2 : y ≤ 2199) (hm : 1 ≤ m) (hm2 : m ≤ 12) : mlenD y m = if m = 2 ∧ leapB y = true then 29 else tblD m := if_neg (by omega)
theorem bef_step {y m : Int} (hy : 1900 ≤ y) (hy2 : y ≤ 2199) (hm : 1 ≤ m) (hm2 : m ≤ 12) : befD y (m + 1) = befD y m + mlenD y m := by
  rw [mlen_ok hy hy2 hm hm2]
  have hc : m = 1 ∨ m = 2 ∨ m = 3 ∨ m = 4 ∨ m = 5 ∨ m = 6 ∨ m = 7 ∨ m = 8 ∨ m = 9 ∨ m = 10 ∨ m = 11 ∨ m = 12 := by omega
  unfold befD
  cases leapB y <;> rcases hc with rfl | rfl | rfl | rfl | rfl | rfl | rfl | rfl | rfl | rfl | rfl | rfl <;> decide
theorem bef_first (y : Int) : befD y 1 = 0 := by simp [befD, befT]
theorem bef_end {y : Int} (hy : 1900 ≤ y) (hy2 : y ≤ 2199) : befD y 13 = yearD y := by
  unfold befD yearD; cases leapB y <;> decide
theorem befT_mono {m n : Int} (hn : n ≤ 13) (h1 : 1 ≤ m) (h : m ≤ n) : befT m ≤ befT n := by
  have hc : m = 1 ∨ m = 2 ∨ m = 3 ∨ m = 4 ∨ m = 5 ∨ m = 6 ∨ m = 7 ∨ m = 8 ∨ m = 9 ∨ m = 10 ∨ m = 11 ∨ m = 12 ∨ m = 13 := by omega
  have hd : n = 1 ∨ n = 2 ∨ n = 3 ∨ n = 4 ∨ n = 5 ∨ n = 6 ∨ n = 7 ∨ n = 8 ∨ n = 9 ∨ n = 10 ∨ n = 11 ∨ n = 12 ∨ n = 13 := by omega
  have key : ∀ i : Fin 13, ∀ j : Fin 13, i ≤ j → befT ((i.val : Int) + 1) ≤ befT ((j.val : Int) + 1) := by decide
  have := key ⟨(m - 1).toNat, by omega⟩ ⟨(n - 1).toNat, by omega⟩ (by rw [Fin.le_def]; simp only; omega)
  simp only at this
  rwa [show (((m - 1).toNat : Nat) : Int) + 1 = m by omega, show (((n - 1).toNat : Nat) : Int) + 1 = n by omega] at this
theorem bef_mono {y m n : Int} (hn : n ≤ 13) (h1 : 1 ≤ m) (h : m ≤ n) : befD y m ≤ befD y n := by
  have := befT_mono hn h1 h
  unfold befD
  cases leapB y
  · simpa using this
  · simp only [and_true]
    split <;> split <;> omega
theorem mlen_rng {y m : Int} (hy : 1900 ≤ y) (hy2 : y ≤ 2199) (hm : 1 ≤ m) (hm2 : m ≤ 12) : 28 ≤ mlenD y m ∧ mlenD y m ≤ 31 := by
  rw [mlen_ok hy hy2 hm hm2]; unfold tblD; repeat' split <;> omega
theorem mlen_in {y m d : Int} (h1 : 1 ≤ d) (h2 : d ≤ mlenD y m) : (1900 ≤ y ∧ y ≤ 2199) ∧ 1 ≤ m ∧ m ≤ 12 := by
  unfold mlenD at h2; split at h2 <;> omega
/-- the day of a date -/
def dayD (y m d : Int) : Int := nyD y + befD y m + d - 1
structure Parts where
  y : Int
  m : Int
  d : Int
def IsParts (day : Int) (p : Parts) : Prop := 1 ≤ p.d ∧ p.d ≤ mlenD p.y p.m ∧ dayD p.y p.m p.d = day
theorem parts_in {day : Int} {p : Parts} (h : IsParts day p) : (1900 ≤ p.y ∧ p.y ≤ 2199) ∧ (1 ≤ p.m ∧ p.m ≤ 12) ∧ (nyD p.y ≤ day ∧ day < nyD (p.y + 1)) ∧ (befD p.y p.m ≤ day - nyD p.y ∧ day - nyD p.y < befD p.y (p.m + 1)) ∧ (1 ≤ p.d ∧ p.d ≤ 31) ∧ 0 ≤ day ∧ day ≤ 109572 := by
  obtain ⟨h1, h2, h3⟩ := h
  obtain ⟨⟨a1, a2⟩, a3, a4⟩ := mlen_in h1 h2
  have b1 := bef_step a1 a2 a3 a4
  have b2 := bef_mono (y := p.y) (m := p.m + 1) (n := 13) (by omega) (by omega) (by omega)
  have b3 := bef_mono (y := p.y) (m := 1) (n := p.m) (by omega) (by omega) (by omega)
  rw [bef_end a1 a2] at b2
  rw [bef_first] at b3
  have b4 := ny_step a1 a2
  have b5 := ny_rng a1 (by omega)
  have b6 := ny_rng (y := p.y + 1) (by omega) (by omega)
  have b7 := mlen_rng a1 a2 a3 a4
  unfold dayD at h3
  omega
theorem parts_uniq {day : Int} {p q : Parts} (hp : IsParts day p) (hq : IsParts day q) : p = q := by
  have a := parts_in hp
  have b := parts_in hq
  have hy : p.y = q.y := by
    have c1 := fun h : p.y + 1 ≤ q.y => ny_mono h
    have c2 := fun h : q.y + 1 ≤ p.y => ny_mono h
    omega
  have hm : p.m = q.m := by
    rw [hy] at a
    have c1 := fun h : p.m + 1 ≤ q.m => bef_mono (y := q.y) (m := p.m + 1) (n := q.m) (by omega) (by omega) h
    have c2 := fun h : q.m + 1 ≤ p.m => bef_mono (y := q.y) (m := q.m + 1) (n := p.m) (by omega) (by omega) h
    omega
  have hd : p.d = q.d := by
    have e1 := hp.2.2
    have e2 := hq.2.2
    unfold dayD at e1 e2
    rw [hy, hm] at e1
    omega
  cases p; cases q; simp_all
open Classical in
noncomputable def partsP (day : Int) : Parts := if h : ∃ p, IsParts day p then h.choose else ⟨0, 0, 0⟩
theorem parts_eq {day : Int} {p : Parts} (h : IsParts day p) : partsP day = p := by
  have he : ∃ p, IsParts day p := ⟨p, h⟩
  unfold partsP
  rw [dif_pos he]
  exact parts_uniq he.choose_spec h
theorem parts_mk {day y m : Int} (hy : 1900 ≤ y) (hy2 : y ≤ 2199) (hm : 1 ≤ m) (hm2 : m ≤ 12) (h1 : befD y m ≤ day - nyD y) (h2 : day - nyD y < befD y (m + 1)) : IsParts day ⟨y, m, day - nyD y - befD y m + 1⟩ := by
  have := bef_step hy hy2 hm hm2
  refine ⟨?_, ?_, ?_⟩ <;> simp only [dayD] <;> omega
end Pl

/- Dates: from day to day, and months on. -/
namespace Pl
set_option linter.unusedVariables false
set_option linter.unusedSimpArgs false
def nextP (p : Parts) : Parts := if p.d < mlenD p.y p.m then ⟨p.y, p.m, p.d + 1⟩ else if p.m < 12 then ⟨p.y, p.m + 1, 1⟩ else ⟨p.y + 1, 1, 1⟩
theorem next_is {day : Int} {p : Parts} (h : IsParts day p) (hd : day < 109572) : IsParts (day + 1) (nextP p) := by
  obtain ⟨⟨a1, a2⟩, ⟨a3, a4⟩, ⟨a5, a6⟩, ⟨a7, a8⟩, ⟨a9, a10⟩, a11, a12⟩ := parts_in h
  obtain ⟨h1, h2, h3⟩ := h
  have b1 := bef_step a1 a2 a3 a4
  have b2 := ny_step a1 a2
  have b3 := bef_end a1 a2
  unfold dayD at h3
  unfold nextP
  by_cases c1 : p.d < mlenD p.y p.m
  · rw [if_pos c1]
    refine ⟨?_, ?_, ?_⟩ <;> simp only [dayD] <;> omega
  · rw [if_neg c1]
    by_cases c2 : p.m < 12
    · rw [if_pos c2]
      have b4 := mlen_rng a1 a2 (m := p.m + 1) (by omega) (by omega)
      refine ⟨?_, ?_, ?_⟩ <;> simp only [dayD] <;> omega
    · rw [if_neg c2]
      have e12 : p.m = 12 := by omega
      rw [e12] at b1
      rw [show (12 : Int) + 1 = 13 from rfl, b3] at b1
      rw [e12] at h3 h2 c1
      have hy : p.y ≤ 2198 := by
        apply Classical.byContradiction
        intro hn
        have : p.y = 2199 := by omega
        rw [this] at b2 b1 h3 c1 h2
        rw [show (2199 : Int) + 1 = 2200 from rfl, ny_end] at b2
        omega
      have b4 := mlen_rng (y := p.y + 1) (m := 1) (by omega) (by omega) (by omega) (by omega)
      refine ⟨?_, ?_, ?_⟩ <;> simp only [dayD, bef_first] <;> omega
theorem is_first : IsParts 0 ⟨1900, 1, 1⟩ := ⟨by decide, by decide, by decide⟩
theorem has_parts : ∀ n : Nat, n ≤ 109572 → ∃ p, IsParts (n : Int) p
  | 0, _ => ⟨_, is_first⟩
  | n + 1, h => by
    obtain ⟨p, hp⟩ := has_parts n (by omega)
    refine ⟨nextP p, ?_⟩
    have := next_is hp (by omega)
    rwa [show ((n + 1 : Nat) : Int) = (n : Int) + 1 by omega]
theorem parts_is {day : Int} (h0 : 0 ≤ day) (h1 : day ≤ 109572) : IsParts day (partsP day) := by
  obtain ⟨p, hp⟩ := has_parts day.toNat (by omega)
  rw [show (day.toNat : Int) = day by omega] at hp
  rw [parts_eq hp]
  exact hp
end Pl

/- Dates as text. -/
namespace Pl
open Go Ab
set_option linter.unusedVariables false
set_option linter.unusedSimpArgs false
def digC (n : Int) : UInt8 := UInt8.ofNat (48 + (n % 10).toNat)
theorem digC_val (n : Int) : (digC n).toNat = 48 + (n % 10).toNat := by
  have : (n % 10).toNat < 10 := by omega
  simp [digC, UInt8.toNat_ofNat]; omega
/-- the last digits of a number -/
def digD (n : Int) : Nat → List UInt8
  | 0 => []
  | w + 1 => digD (n / 10) w ++ [digC n]
theorem digD_len : ∀ (w : Nat) (n : Int), (digD n w).length = w
  | 0, _ => rfl
  | w + 1, n => by simp [digD, digD_len w]
theorem digD_zero : ∀ w : Nat, digD 0 w = List.replicate w 48
  | 0 => rfl
  | w + 1 => by
    rw [digD, show (0 : Int) / 10 = 0 from rfl, digD_zero w, show digC 0 = 48 from rfl, ← List.replicate_succ']
theorem itoa_small {n : Int} (h0 : 0 ≤ n) (h : n < 10) : Go.Lib.itoa n = [digC n] := by
  rw [itoa_pos h0, Go.Lib.decDigits, dif_pos (by omega)]
  have : (n % 10).toNat = n.toNat := by omega
  simp [digC, this]
theorem itoa_big {n : Int} (h : 10 ≤ n) : Go.Lib.itoa n = Go.Lib.itoa (n / 10) ++ [digC n] := by
  rw [itoa_pos (by omega), itoa_pos (n := n / 10) (by omega), Go.Lib.decDigits, dif_neg (by omega)]
  have e1 : (n / 10).toNat = n.toNat / 10 := by omega
  have e2 : (n % 10).toNat = n.toNat % 10 := by omega
  rw [e1, digC, e2]
theorem pad_eq : ∀ (w : Nat) (n : Int), 0 ≤ n → n < 10 ^ (w + 1) → (Go.Lib.itoa n).length ≤ w + 1 ∧ List.replicate (w + 1 - (Go.Lib.itoa n).length) 48 ++ Go.Lib.itoa n = digD n (w + 1)
  | 0, n, h0, h => by
    rw [itoa_small h0 (by simpa using h)]
    simp [digD]
  | w + 1, n, h0, h => by
    by_cases hn : n < 10
    · rw [itoa_small h0 hn]
      refine ⟨by simp, ?_⟩
      rw [digD, show n / 10 = 0 by omega, digD_zero]
      simp
    · have h' : n / 10 < 10 ^ (w + 1) := by
        rw [Int.pow_succ] at h
        omega
      obtain ⟨a, b⟩ := pad_eq w (n / 10) (by omega) h'
      rw [itoa_big (by omega)]
      refine ⟨by simp; omega, ?_⟩
      rw [digD, ← b, List.length_append, List.length_singleton, show w + 1 + 1 - ((Go.Lib.itoa (n / 10)).length + 1) = w + 1 - (Go.Lib.itoa (n / 10)).length by omega, List.append_assoc]
def isDig (b : UInt8) : Bool := decide (48 ≤ b.toNat ∧ b.toNat ≤ 57)
/-- a date's text -/
noncomputable def formatR (day : Int) : List UInt8 :=
  if 0 ≤ day ∧ day ≤ 109572 then digD (partsP day).y 4 ++ [45] ++ digD (partsP day).m 2 ++ [45] ++ digD (partsP day).d 2 else []
def formB (s : List UInt8) : Prop := s.length = 10 ∧ s[4]? = some 45 ∧ s[7]? = some 45 ∧ (s.take 4).all isDig = true ∧ ((s.drop 5).take 2).all isDig = true ∧ (s.drop 8).all isDig = true
instance (s : List UInt8) : Decidable (formB s) := by unfold formB; infer_instance
end Pl

/- Dates: what the laws ask. -/
namespace Pl
set_option linter.unusedVariables false
set_option linter.unusedSimpArgs false
end Pl

/- Dates: the tables of months as the walks read them. -/
namespace Pl
open Go Ab
set_option linter.unusedVariables false
set_option linter.unusedSimpArgs false
theorem month_cases {m : Int} (h : 1 ≤ m ∧ m ≤ 12) : m = 1 ∨ m = 2 ∨ m = 3 ∨ m = 4 ∨ m = 5 ∨ m = 6 ∨ m = 7 ∨ m = 8 ∨ m = 9 ∨ m = 10 ∨ m = 11 ∨ m = 12 := by omega
theorem tbl_row {m : Int} (h : 1 ≤ m ∧ m ≤ 12) : (([D.int IntKind.i64 31, D.int IntKind.i64 28, D.int IntKind.i64 31, D.int IntKind.i64 30, D.int IntKind.i64 31, D.int IntKind.i64 30, D.int IntKind.i64 31, D.int IntKind.i64 31, D.int IntKind.i64 30, D.int IntKind.i64 31, D.int IntKind.i64 30, D.int IntKind.i64 31][m.toNat - 1]?.getD (D.int IntKind.i64 0)).cells[0]?.getD (D.int IntKind.i64 0)) = D.int IntKind.i64 (tblD m) := by
  rcases month_cases h with rfl | rfl | rfl | rfl | rfl | rfl | rfl | rfl | rfl | rfl | rfl | rfl <;> rfl
theorem bef_arr {m : Int} (h : 1 ≤ m ∧ m ≤ 12) : ([D.int IntKind.i64 0, D.int IntKind.i64 31, D.int IntKind.i64 59, D.int IntKind.i64 90, D.int IntKind.i64 120, D.int IntKind.i64 151, D.int IntKind.i64 181, D.int IntKind.i64 212, D.int IntKind.i64 243, D.int IntKind.i64 273, D.int IntKind.i64 304, D.int IntKind.i64 334][m.toNat - 1]?.getD (D.int IntKind.i64 0)) = D.int IntKind.i64 (befT m) := by
  rcases month_cases h with rfl | rfl | rfl | rfl | rfl | rfl | rfl | rfl | rfl | rfl | rfl | rfl <;> rfl
theorem befT_rng (m : Int) : 0 ≤ befT m ∧ befT m ≤ 365 := by unfold befT; repeat' split <;> omega
theorem mlen_out {y m : Int} (h : (y < 1900 ∨ 2199 < y) ∨ (m < 1 ∨ 12 < m)) : mlenD y m = 0 := if_pos h
theorem mlen_29 {y m : Int} (hy : 1900 ≤ y) (hy2 : y ≤ 2199) (h : m = 2) (hl : leapB y = true) : mlenD y m = 29 := by subst h; rw [mlen_ok hy hy2 (by omega) (by omega), if_pos ⟨rfl, hl⟩]
theorem mlen_tbl {y m : Int} (hy : 1900 ≤ y) (hy2 : y ≤ 2199) (hm : 1 ≤ m) (hm2 : m ≤ 12) (h : ¬ (m = 2 ∧ leapB y = true)) : mlenD y m = tblD m := by rw [mlen_ok hy hy2 hm hm2, if_neg h]
/-- the parts of a day, or the error -/
noncomputable def partsR (day : Int) : Int × Int × Int × Int := if 0 ≤ day ∧ day ≤ 109572 then ((partsP day).y, (partsP day).m, (partsP day).d, 0) else (0, 0, 0, 2)
theorem partsR_ok {day : Int} (h : 0 ≤ day ∧ day ≤ 109572) : partsR day = ((partsP day).y, (partsP day).m, (partsP day).d, 0) := if_pos h
theorem partsR_bad {day : Int} (h : ¬ (0 ≤ day ∧ day ≤ 109572)) : partsR day = (0, 0, 0, 2) := if_neg h
theorem partsR_known {day : Int} (h : (partsR day).2.2.2 = 0) : 0 ≤ day ∧ day ≤ 109572 := by
  apply Classical.byContradiction
  intro hh
  rw [partsR_bad hh] at h
  exact absurd h (by decide)
theorem partsR_unknown {day : Int} (h : ¬ (partsR day).2.2.2 = 0) : ¬ (0 ≤ day ∧ day ≤ 109572) := fun hh => by
  rw [partsR_ok hh] at h
  exact h rfl
theorem repeat_eq : ∀ c : Nat, Go.Lib.repeatL [48] c = List.replicate c 48
  | 0 => rfl
  | c + 1 => by simp [Go.Lib.repeatL, repeat_eq c, List.replicate_succ]
theorem pad_rep (w : Nat) (n : Int) (h0 : 0 ≤ n) (h1 : n < 10 ^ (w + 1)) : (Go.Lib.itoa n).length ≤ w + 1 ∧ Go.Lib.repeatL [48] (w + 1 - (Go.Lib.itoa n).length) ++ Go.Lib.itoa n = digD n (w + 1) := by
  rw [repeat_eq]
  exact pad_eq w n h0 h1
theorem format_bad {day : Int} (h : ¬ (0 ≤ day ∧ day ≤ 109572)) : formatR day = [] := if_neg h
theorem format_ok {day : Int} (h : 0 ≤ day ∧ day ≤ 109572) : formatR day = digD (partsP day).y 4 ++ [45] ++ digD (partsP day).m 2 ++ [45] ++ digD (partsP day).d 2 := if_pos h
theorem map_byte : ∀ l : List UInt8, l.map (fun x => Ab.byteOf (D.int IntKind.u8 (x.toNat : Int))) = l
  | [] => rfl
  | x :: l => by rw [List.map_cons, map_byte l]; simp [Ab.byteOf]
theorem digC_int {x : Int} (h : 0 ≤ x) : IntKind.u8.wrap (IntKind.i64.wrap (48 + x.tmod 10)) = ((digC x).toNat : Int) := by
  rw [Int.tmod_eq_emod_of_nonneg h, wrap_i64 (by omega) (by omega), digC_val]
  have : IntKind.u8.wrap (48 + x % 10) = 48 + x % 10 := by rw [IntKind.wrap_u8]; omega
  omega
end Pl

/- Dates: reading a text. -/
namespace Pl
set_option linter.unusedVariables false
end Pl

/- Dates: the document's reading of a text, sign by sign. -/
namespace Pl
set_option linter.unusedVariables false
set_option linter.unusedSimpArgs false
open Go Ab
end Pl

/- Notices: the text. -/
namespace Pl
open Go Ab
set_option linter.unusedVariables false
def duS : List UInt8 := [32, 105, 115, 32, 100, 117, 101, 32, 111, 110, 32]
@[simp] theorem duS_len : duS.length = 11 := rfl
def waS : List UInt8 := [32, 119, 97, 115, 32, 100, 117, 101, 32, 111, 110, 32]
@[simp] theorem waS_len : waS.length = 12 := rfl
def wtS : List UInt8 := [32, 119, 97, 105, 116, 115, 32, 102, 111, 114, 32, 121, 111, 117, 32, 117, 110, 116, 105, 108, 32]
@[simp] theorem wtS_len : wtS.length = 21 := rfl
def rcS : List UInt8 := [32, 105, 115, 32, 119, 97, 110, 116, 101, 100, 32, 98, 121, 32, 115, 111, 109, 101, 98, 111, 100, 121, 32, 101, 108, 115, 101, 44, 32, 112, 108, 101, 97, 115, 101, 32, 114, 101, 116, 117, 114, 110, 32, 105, 116, 32, 98, 121, 32]
@[simp] theorem rcS_len : rcS.length = 49 := rfl
def itS : List UInt8 := [58, 32, 105, 116, 101, 109, 32]
@[simp] theorem itS_len : itS.length = 7 := rfl
def paS : List UInt8 := [112, 97, 116, 114, 111, 110, 32]
@[simp] theorem paS_len : paS.length = 7 := rfl

def idxP (p : Patr → Bool) : Int → List Patr → Int
  | _, [] => -1
  | i, x :: l => if p x = true then i else idxP p (i + 1) l
theorem idxP_cs (p : Patr → Bool) : ∀ (l : List Patr) (i : Int), (idxP p i l = -1 ∧ l.find? p = none) ∨ ∃ (j : Nat) (x : Patr), idxP p i l = i + j ∧ l[j]? = some x ∧ l.find? p = some x
  | [], i => .inl ⟨rfl, rfl⟩
  | x :: l, i => by
    unfold idxP
    cases h : p x with
    | true => exact .inr ⟨0, x, by simp, rfl, by simp [h]⟩
    | false =>
      rcases idxP_cs p l (i + 1) with ⟨h1, h2⟩ | ⟨j, y, h1, h2, h3⟩
      · exact .inl ⟨by simp [h1], by simp [h, h2]⟩
      · refine .inr ⟨j + 1, y, ?_, by simpa using h2, by simp [h, h3]⟩
        simp only [Bool.false_eq_true, if_false]; rw [h1]; omega
def getP (l : List Patr) (i : Int) : Option Patr := l.find? (fun x => decide (x.id = i))
theorem getP_cs (l : List Patr) (i : Int) : (idxP (fun x => decide (x.id = i)) 0 l = -1 ∧ getP l i = none) ∨ ∃ (j : Nat) (x : Patr), idxP (fun x => decide (x.id = i)) 0 l = (j : Int) ∧ l[j]? = some x ∧ getP l i = some x := by
  rcases idxP_cs (fun x => decide (x.id = i)) l 0 with h | ⟨j, x, h1, h2, h3⟩
  · exact .inl h
  · exact .inr ⟨j, x, by rw [h1]; omega, h2, h3⟩
def nameR (l : List Patr) (i : Int) : List UInt8 := match getP l i with | some p => p.name | none => paS ++ Go.Lib.itoa i
theorem nameR_none {l : List Patr} {i : Int} (h : getP l i = none) : nameR l i = paS ++ Go.Lib.itoa i := by unfold nameR; rw [h]
theorem nameR_some {l : List Patr} {i : Int} {p : Patr} (h : getP l i = some p) : nameR l i = p.name := by unfold nameR; rw [h]
def PatrOk (l : List Patr) : Prop := ∀ p ∈ l, p.name.length ≤ 1000
theorem nameR_len {l : List Patr} {i : Int} (hp : PatrOk l) (h0 : -9223372036854775808 ≤ i) (h1 : i ≤ 9223372036854775807) : (nameR l i).length ≤ 1000 := by
  have hi := Go.Lib.itoa_length_le i h0 h1
  unfold nameR
  split
  · rename_i p h; exact hp p (List.mem_of_find?_eq_some h)
  · simp; omega
def restR (k : Int) : List UInt8 := if k = 1 then duS else if k = 2 then waS else if k = 3 then wtS else rcS
theorem restR_len (k : Int) : (restR k).length ≤ 60 := by unfold restR; split <;> (try split) <;> (try split) <;> simp
noncomputable def textR (l : List Patr) (n : Note) : List UInt8 :=
  if 1 ≤ n.kind ∧ n.kind ≤ 4 then nameR l n.patron ++ itS ++ Go.Lib.itoa n.item ++ restR n.kind ++ formatR n.day else []
/-- The digits that are left and those that stand. -/
def NumI (n y : Int) (s : List UInt8) : Prop := y.natAbs ≤ n.natAbs ∧ (if y = 0 then [] else Go.Lib.decDigits y.natAbs) ++ s = Go.Lib.decDigits n.natAbs
theorem NumI.start {n : Int} (h : ¬ n = 0) : NumI n n [] := ⟨Nat.le_refl _, by rw [if_neg h]; simp⟩
theorem NumI.step {n y d : Int} {s : List UInt8} (h : NumI n y s) (hy : ¬ y = 0) (hd : d = if y.tmod 10 < 0 then -(y.tmod 10) else y.tmod 10) : NumI n (y.tdiv 10) (UInt8.ofNat (48 + d.toNat) :: s) := by
  obtain ⟨h1, h2⟩ := h
  have e1 : (y.tdiv 10).natAbs = y.natAbs / 10 := Int.natAbs_tdiv y 10
  have e2 : (y.tmod 10).natAbs = y.natAbs % 10 := Int.natAbs_tmod y 10
  have e3 : d.toNat = y.natAbs % 10 := by rw [← e2, hd]; split <;> omega
  have h0 : 0 < y.natAbs := Int.natAbs_pos.2 hy
  rw [if_neg hy] at h2
  refine ⟨by omega, ?_⟩
  rw [← h2, e3]
  conv => rhs; rw [Go.Lib.decDigits]
  by_cases hs : y.natAbs < 10
  · have : y.tdiv 10 = 0 := Int.natAbs_eq_zero.1 (by omega)
    rw [if_pos this, dif_pos hs]
    have : y.natAbs % 10 = y.natAbs := Nat.mod_eq_of_lt hs
    rw [this]; rfl
  · have : ¬ y.tdiv 10 = 0 := fun e => by rw [e] at e1; simp at e1; omega
    rw [if_neg this, dif_neg hs, e1]; simp
theorem NumI.len {n y : Int} {s : List UInt8} (h : NumI n y s) (h0 : -9223372036854775808 ≤ n) (h1 : n ≤ 9223372036854775807) : s.length ≤ 21 := by
  have hi := Go.Lib.itoa_length_le n h0 h1
  have hl := congrArg List.length h.2
  rw [List.length_append] at hl
  unfold Go.Lib.itoa at hi
  split at hi
  · simp only [List.length_cons] at hi; omega
  · rw [show n.toNat = n.natAbs by omega] at hi; omega
theorem NumI.done {n : Int} {s : List UInt8} (h : NumI n 0 s) : (if n < 0 then [45] else []) ++ s = Go.Lib.itoa n := by
  have h2 := h.2
  rw [if_pos rfl, List.nil_append] at h2
  unfold Go.Lib.itoa
  split
  · rw [h2]; rfl
  · rw [h2, show n.toNat = n.natAbs by omega]; rfl
theorem formatR_len (d : Int) : (formatR d).length ≤ 10 := by
  by_cases h : 0 ≤ d ∧ d ≤ 109572
  · rw [format_ok h]; simp [digD_len]
  · rw [format_bad h]; simp
theorem num_dig {d : Int} (h0 : 0 ≤ d) (h1 : d < 10) : Ab.byteOf (D.int IntKind.u8 (IntKind.u8.wrap (IntKind.i64.wrap (48 + d)))) = UInt8.ofNat (48 + d.toNat) := dig_eq h0 h1
def smaP (l : List Patr) : Bool := decide (l.length ≤ 60) && l.all (fun p => decide (p.name.length ≤ 1000))
def smaF (_ : Unit) : List Patr → Bool
  | [] => true
  | p :: l => if p.name.length ≤ 1000 then smaF () l else false
theorem smaF_eq : ∀ l : List Patr, smaF () l = l.all (fun p => decide (p.name.length ≤ 1000))
  | [] => rfl
  | p :: l => by
    rw [smaF, smaF_eq l, List.all_cons]
    by_cases h : p.name.length ≤ 1000
    · rw [if_pos h]; simp [h]
    · rw [if_neg h]; simp [h]
theorem smaP_ok {l : List Patr} (h : smaP l = true) : PatrOk l := fun p hp => by
  unfold smaP at h
  rw [Bool.and_eq_true, List.all_eq_true] at h
  simpa using h.2 p hp
end Pl

/- Dates: the chapter's examples. -/
namespace Pl
theorem ex_format : formatR 46340 = [50, 48, 50, 54, 45, 49, 49, 45, 49, 54] := by
  have hp : partsP 46340 = ⟨2026, 11, 16⟩ := parts_eq ⟨by decide, by decide, by decide⟩
  rw [format_ok ⟨by decide, by decide⟩, hp]; decide
end Pl

/- Notices: the laws, in plain Lean. -/
namespace Pl
open Go Ab
set_option linter.unusedVariables false

theorem encItm_eq (x : Itm) : encItm x = .agg [.int .i64 x.id, .int .i64 x.rcd, .int .i64 x.br, .int .i64 x.kind, .int .i64 x.price, .str x.call, .int .i64 x.cus.st, .int .i64 x.cus.br, .int .i64 x.cus.who, .int .i64 x.cus.gto] := rfl
/-- The example. -/
def cEx : Circ := ⟨100, [], [], [⟨2, 5, 80, 99, 0, true⟩, ⟨3, 5, 80, 103, 0, false⟩], [], [], [], ⟨⟨0, []⟩, ⟨0, []⟩, ⟨0, []⟩, ⟨0, []⟩⟩, [], 0, 0, false⟩
theorem due_ex2 : dueN cEx 2 = [⟨2, 5, 2, 99⟩, ⟨4, 5, 2, 99⟩] := by rw [dueN, stab_puts]; decide
theorem due_ex3 : dueN cEx 3 = [⟨1, 5, 3, 103⟩, ⟨2, 5, 2, 99⟩, ⟨4, 5, 2, 99⟩] := by rw [dueN, stab_puts]; decide
theorem cnt_ex : noCN [⟨2, 5, 2, 46340⟩, ⟨9, 0, 0, 0⟩, ⟨2, 5, 2, 46340⟩] = ⟨1, 0, 2, 0, 0⟩ := by decide
theorem text_ex : textR cEx.patrons ⟨2, 5, 2, 46340⟩ = [112, 97, 116, 114, 111, 110, 32, 53, 58, 32, 105, 116, 101, 109, 32, 50, 32, 119, 97, 115, 32, 100, 117, 101, 32, 111, 110, 32, 50, 48, 50, 54, 45, 49, 49, 45, 49, 54] := by
  have i5 : Go.Lib.itoa 5 = [53] := by rw [itoa_pos (by omega), Go.Lib.decDigits]; rfl
  have i2 : Go.Lib.itoa 2 = [50] := by rw [itoa_pos (by omega), Go.Lib.decDigits]; rfl
  rw [textR, if_pos (by decide), ex_format, i2, nameR_none rfl, i5]; rfl

/-- The states that the chapter speaks of. -/
def rlF (_ : Unit) : List Loan → Bool
  | [] => true
  | n :: l => if isDay n.due = true then rlF () l else false
def rhF (_ : Unit) : List Hld → Bool
  | [] => true
  | h :: l => if isDay h.til = true then rhF () l else false
def rigC (c : Circ) : Bool := decide (c.loans.length ≤ 60) && decide (c.holds.length ≤ 60) && isDay c.today && rlF () c.loans && rhF () c.holds
theorem rlF_mem : ∀ {l : List Loan}, rlF () l = true → ∀ n ∈ l, isDay n.due = true
  | [], _, n, hn => by cases hn
  | m :: l, h, n, hn => by
    rw [rlF] at h
    split at h
    · rcases List.mem_cons.1 hn with rfl | hn
      · assumption
      · exact rlF_mem h n hn
    · cases h
structure RigP (c : Circ) : Prop where
  h1 : c.loans.length ≤ 60
  h2 : c.holds.length ≤ 60
  day : isDay c.today = true
  due : ∀ n ∈ c.loans, isDay n.due = true
theorem rigC_ok {c : Circ} (h : rigC c = true) : RigP c := by
  unfold rigC at h
  simp only [Bool.and_eq_true, decide_eq_true_iff] at h
  exact ⟨h.1.1.1.1, h.1.1.1.2, h.1.1.2, rlF_mem h.1.2⟩
theorem rigC_a {c : Circ} (h : 60 < c.loans.length ∨ 60 < c.holds.length ∨ isDay c.today = false) : rigC c = false := by
  unfold rigC
  rcases h with h | h | h
  · rw [show decide (c.loans.length ≤ 60) = false by simp; omega]; rfl
  · rw [show decide (c.holds.length ≤ 60) = false by simp; omega]; simp
  · rw [h]; simp
theorem rigC_l {c : Circ} (h : rlF () c.loans = false) : rigC c = false := by unfold rigC; rw [h]; simp
theorem rigC_h {c : Circ} (h : rhF () c.holds = false) : rigC c = false := by unfold rigC; rw [h]; simp
theorem rigC_t {c : Circ} (h1 : c.loans.length ≤ 60) (h2 : c.holds.length ≤ 60) (h3 : isDay c.today = true) (h4 : rlF () c.loans = true) (h5 : rhF () c.holds = true) : rigC c = true := by
  unfold rigC; simp [h1, h2, h3, h4, h5]
theorem dueN_len {c : Circ} (h : RigP c) (a : Int) : (dueN c a).length ≤ 180 := by
  have h1 := dueL_len c a
  have h2 := h.h1
  have h3 := h.h2
  rw [dueN, stabM_len]; omega
end Pl

set_option maxRecDepth 100000
set_option linter.unusedSimpArgs false
set_option linter.unusedVariables false
namespace Go.Proofs.YtjpjndfdncalfaaDoor
open Go Ab Pl
open Go.RowKit
theorem info_note : (Tryd.prog.info? 42).map (fun i => (i.zero, i.size, i.bytes)) = some (some (.agg #[.int .i64 0, .int .i64 0, .int .i64 0, .int .i64 0]), 4, 32) := by kernel_rfl
/-- the loan's box, the box of the list, and the row of the list -/
structure AddW (n0 : Nat) (i p o d e : Int) (b : Bool) (w : World) (k : Nat) (xs : List Value) (hv : Value) : Prop where
  loan : w.heap[n0]? = some (.cells #[.int .i64 i, .int .i64 p, .int .i64 o, .int .i64 d, .int .i64 e, .bool b] 47 (0, 0))
  box : w.heap[n0 + 1]? = some (.cells #[hv] 38 (0, 0))
  row : w.ownsRow (n0 + 2) 42 4 hv k xs
theorem add_ok (w : World) (n0 : Nat) (hv : Value) (i p o d e : Int) (b : Bool) (kind : Int) (k : Nat) (xs : List Value) (hk : k ≤ 1) (h : AddW n0 i p o d e b w k xs hv) :
    Calls Tryd.prog 35 #[.int .i64 kind, .pointer (some ⟨n0 + 1, 0, none⟩), .pointer (some ⟨n0, 0, none⟩)] w fun z w' => z = .returned (.tuple #[]) ∧ Below n0 w w' ∧ ∃ hv', AddW n0 i p o d e b w' (k + 1) (xs ++ [.int .i64 kind, .int .i64 p, .int .i64 i, .int .i64 d]) hv' := by
  obtain ⟨inf, hi, hz0, hz1, hz2⟩ := info_parts info_note
  have hsz : n0 + 1 < w.heap.size := (Array.getElem?_eq_some_iff.1 h.box).1
  have c0 : w.cell? ⟨n0, 0, none⟩ = some (.int .i64 i) := by simp [World.cell?, h.loan]
  have c1 : w.cell? ⟨n0, 1, none⟩ = some (.int .i64 p) := by simp [World.cell?, h.loan]
  have c3 : w.cell? ⟨n0, 3, none⟩ = some (.int .i64 d) := by simp [World.cell?, h.loan]
  have cv : w.cell? ⟨n0 + 1, 0, none⟩ = some hv := by simp [World.cell?, h.box]
  go_enter Tryd.func35, Tryd.ntmps35
  go_wp2_with (at_builtin; go_loud (refine wpList_append_own _ rfl _ _ 38 rfl (n0 + 2) 42 inf _ 4 32 Tryd.underlying38 hi hz0 hz1 hz2 rfl (by decide) hv k xs rfl (h.row.alloc _) ⟨w.heap.size, 0, none⟩ 1 1 [.int .i64 kind, .int .i64 p, .int .i64 i, .int .i64 d] rfl rfl ?_ ?_ ?_ ?_ ?_ ?_))
  · intro j u hj
    rw [Addr.add_lit, cell_of_row _ _ _ _ _ _ (World.alloc_heap_new w _), Nat.zero_add]
    simpa using hj
  · simp [Value.oneCell']
  · simp only [maxLen]; omega
  · omega
  · simp; omega
  · intro v' w' hown hg _
    have hne : some (n0 + 1) ≠ hv.ownBlock := fun e => by have := h.row.lt (n0 + 1) e.symm; omega
    have hne0 : some n0 ≠ hv.ownBlock := fun e => by have := h.row.lt n0 e.symm; omega
    have hbx : w'.heap[n0 + 1]? = some (.cells #[hv] 38 (0, 0)) := by exact (hg.block (n0 + 1) (by simp; omega) hne).trans (((World.grownBy_alloc w _ none).block (n0 + 1) hsz (by simp)).trans h.box)
    have hln := (hg.block n0 (by simp; omega) hne0).trans (((World.grownBy_alloc w _ none).block n0 (by omega) (by simp)).trans h.loan)
    have cv' : w'.cell? ⟨n0 + 1, 0, none⟩ = some hv := by simp [World.cell?, hbx]
    have fv' : w'.frozen? ⟨n0 + 1, 0, none⟩ = false := by simp [World.frozen?, hbx]
    obtain ⟨q1, q2, q3, rfl⟩ : ∃ x y z, v' = .slice x y z := by
      rcases hown.2 with ⟨e, _⟩ | ⟨g, cap, cur, e, _⟩
      · exact ⟨_, _, _, e⟩
      · exact ⟨_, _, _, e⟩
    go_wp2
    go_end0
    refine ⟨rfl, (((Below.refl n0 w).alloc (by omega) _).grown hg (by simp; omega) (fun k e => by have := h.row.lt k e; omega)).setCell (p := ⟨n0 + 1, 0, none⟩) (by show n0 ≤ n0 + 1; omega) _, .slice q1 q2 q3, ⟨?_, ?_, ?_⟩⟩
    · simp [World.setCell, Array.getElem?_modify, hln]
    · simp [World.setCell, Array.getElem?_modify, hbx]
    · refine hown.kept (row := some (n0 + 1)) ⟨rfl, rfl, rfl, by simp [World.setCell], fun k hk e => ?_⟩ (.inr fun e => ?_)
      · simp only [World.setCell, Array.getElem?_modify]
        rw [if_neg (fun e' => e (by rw [← e']))]
      · have := hown.lt (n0 + 1) e
        omega
theorem AddW.cells {w : World} {n0 k : Nat} {i p o d e : Int} {b : Bool} {xs : List Value} {hv : Value} (h : AddW n0 i p o d e b w k xs hv) :
    w.cell? ⟨n0, 3, none⟩ = some (.int .i64 d) ∧ w.cell? ⟨n0 + 1, 0, none⟩ = some hv := by
  constructor
  · simp [World.cell?, h.loan]
  · simp [World.cell?, h.box]
def LoanPost (n0 : Nat) (w : World) (l : List Note) (z : Ending) (w' : World) : Prop := ∃ hv, z = .returned hv ∧ Below n0 w w' ∧ w'.ownsRow (n0 + 2) 42 4 hv l.length (noteVs l)
theorem loan_at (w : World) (n : Loan) (today ahead : Int) :
    Calls Tryd.prog 22 #[.agg #[.int .i64 n.item, .int .i64 n.patron, .int .i64 n.out, .int .i64 n.due, .int .i64 n.ren, .bool n.rcl], .int .i64 today, .int .i64 ahead] w (LoanPost w.heap.size w (loanN n today ahead)) := by
  obtain ⟨i, p, o, d, e, b⟩ := n
  have h0 : ∀ b, AddW w.heap.size i p o d e b ((w.alloc (.cells #[.int .i64 i, .int .i64 p, .int .i64 o, .int .i64 d, .int .i64 e, .bool b] 47)).alloc (.cells #[.slice none 0 0] 38)) 0 [] (.slice none 0 0) := fun b =>
    ⟨((World.grownBy_alloc _ _ none).block _ (by simp) (by simp)).trans (World.alloc_heap_new w _), by have := World.alloc_heap_new (w.alloc (.cells #[.int .i64 i, .int .i64 p, .int .i64 o, .int .i64 d, .int .i64 e, .bool b] 47)) (.cells #[.slice none 0 0] 38); rwa [World.size_alloc] at this, World.ownsRow_nil _ _ _ _⟩
  have hb0 : ∀ b, Below w.heap.size w ((w.alloc (.cells #[.int .i64 i, .int .i64 p, .int .i64 o, .int .i64 d, .int .i64 e, .bool b] 47)).alloc (.cells #[.slice none 0 0] 38)) := fun b =>
    ((Below.refl _ w).alloc (Nat.le_refl _) _).alloc (by simp) _
  have hw : ∀ x : Int, IntKind.i64.wrap x = wrap64 x := fun x => IntWalk.i64_left x
  go_enter Tryd.func22, Tryd.ntmps22
  cases b
  · go_wp2_with fail
    · refine (add_ok _ w.heap.size _ i p o d e false _ 0 [] (by omega) (h0 false)).mono ?_
      rintro z w' ⟨rfl, hb, hv', hA⟩
      obtain ⟨c3, cb⟩ := hA.cells
      go_wp2_with fail
      have hL : loanN ⟨i, p, o, d, e, false⟩ today ahead = [⟨2, p, i, d⟩] := by simp only [loanN]; rw [if_neg (by simp), if_pos (by omega)]; rfl
      rw [hL]
      go_ret
      exact ⟨_, rfl, (hb0 _).trans hb, hA.row⟩
    · refine (add_ok _ w.heap.size _ i p o d e false _ 0 [] (by omega) (h0 false)).mono ?_
      rintro z w' ⟨rfl, hb, hv', hA⟩
      obtain ⟨c3, cb⟩ := hA.cells
      go_wp2_with fail
      have hL : loanN ⟨i, p, o, d, e, false⟩ today ahead = [⟨1, p, i, d⟩] := by simp only [loanN]; rw [if_neg (by simp), if_neg (by omega), if_pos (by rw [hw]; omega)]; rfl
      rw [hL]
      go_ret
      exact ⟨_, rfl, (hb0 _).trans hb, hA.row⟩
    · have hL : loanN ⟨i, p, o, d, e, false⟩ today ahead = [] := by simp only [loanN]; rw [if_neg (by simp), if_neg (by omega), if_neg (by rw [hw]; omega)]; rfl
      rw [hL]
      go_ret
      exact ⟨_, rfl, hb0 _, (h0 false).row⟩
  · go_wp2_with fail
    refine (add_ok _ w.heap.size _ i p o d e true _ 0 [] (by omega) (h0 true)).mono ?_
    rintro z w' ⟨rfl, hb, hv', hA⟩
    obtain ⟨c3, cb⟩ := hA.cells
    go_wp2_with fail
    · refine (add_ok _ w.heap.size _ i p o d e true _ 1 _ (by omega) hA).mono ?_
      rintro z w'' ⟨rfl, hb', hv'', hA'⟩
      obtain ⟨c3', cb'⟩ := hA'.cells
      go_wp2_with fail
      have hL : loanN ⟨i, p, o, d, e, true⟩ today ahead = [⟨4, p, i, d⟩, ⟨2, p, i, d⟩] := by simp only [loanN]; rw [if_pos trivial, if_pos (by omega)]; rfl
      rw [hL]
      go_ret
      exact ⟨_, rfl, ((hb0 _).trans hb).trans hb', hA'.row⟩
    · refine (add_ok _ w.heap.size _ i p o d e true _ 1 _ (by omega) hA).mono ?_
      rintro z w'' ⟨rfl, hb', hv'', hA'⟩
      obtain ⟨c3', cb'⟩ := hA'.cells
      go_wp2_with fail
      have hL : loanN ⟨i, p, o, d, e, true⟩ today ahead = [⟨4, p, i, d⟩, ⟨1, p, i, d⟩] := by simp only [loanN]; rw [if_pos trivial, if_neg (by omega), if_pos (by rw [hw]; omega)]; rfl
      rw [hL]
      go_ret
      exact ⟨_, rfl, ((hb0 _).trans hb).trans hb', hA'.row⟩
    · have hL : loanN ⟨i, p, o, d, e, true⟩ today ahead = [⟨4, p, i, d⟩] := by simp only [loanN]; rw [if_pos trivial, if_neg (by omega), if_neg (by rw [hw]; omega)]; rfl
      rw [hL]
      go_ret
      exact ⟨_, rfl, (hb0 _).trans hb, hA.row⟩
theorem loan_ok (n : Loan) (today ahead : Int) : ACalls Tryd.prog 22 [encLoan n, .int .i64 today, .int .i64 ahead] (.own (encNote zn) (noteL (loanN n today ahead))) := by
  refine ACalls.of ⟨_, Tryd.func22, by kernel_rfl, by kernel_rfl⟩ fun w S vs hG hs hr => ?_
  have q0 := hr 0 _ rfl
  have q1 := hr 1 _ rfl
  have q2 := hr 2 _ rfl
  obtain ⟨i, p, o, d, e, b⟩ := n
  have hrg : (i64ok i ∧ i64ok p ∧ i64ok d) ∧ vs.getD 0 undef = .agg #[.int .i64 i, .int .i64 p, .int .i64 o, .int .i64 d, .int .i64 e, .bool b] := by
    generalize vs.getD 0 undef = v at q0
    rw [encLoan_eq] at q0
    cases q0 with
    | agg _ us hl hf h =>
      have k0 := h 0 _ rfl
      have k1 := h 1 _ rfl
      have k2 := h 2 _ rfl
      have k3 := h 3 _ rfl
      have k4 := h 4 _ rfl
      have k5 := h 5 _ rfl
      obtain ⟨us⟩ := us
      match us, hl with
      | [u0, u1, u2, u3, u4, u5], _ =>
        simp at k0 k1 k2 k3 k4 k5
        cases k0 with | int _ _ r0 => cases k1 with | int _ _ r1 => cases k2; cases k3 with | int _ _ r3 => cases k4; cases k5; exact ⟨⟨r0, r1, r3⟩, rfl⟩
  have hv : vs = #[.agg #[.int .i64 i, .int .i64 p, .int .i64 o, .int .i64 d, .int .i64 e, .bool b], .int .i64 today, .int .i64 ahead] := by
    have h0 := hrg.2
    obtain ⟨vs⟩ := vs
    match vs, hs with
    | [v0, v1, v2], _ =>
      simp at q1 q2 h0
      subst h0
      cases q1; cases q2; rfl
  rw [hv]
  refine (loan_at w ⟨i, p, o, d, e, b⟩ today ahead).mono ?_
  rintro z w' ⟨v, rfl, hb, hown⟩
  refine ⟨v, rfl, hb, own_notes hown (by omega) fun m hm => ?_⟩
  have c4 : i64ok 4 ∧ i64ok 2 ∧ i64ok 1 := by unfold i64ok; decide
  obtain ⟨⟨r0, r1, r3⟩, _⟩ := hrg
  simp only [loanN, List.mem_append] at hm
  rcases hm with hm | hm
  · split at hm
    · simp at hm; subst hm; exact ⟨c4.1, r1, r0, r3⟩
    · simp at hm
  · split at hm
    · simp at hm; subst hm; exact ⟨c4.2.1, r1, r0, r3⟩
    · split at hm
      · simp at hm; subst hm; exact ⟨c4.2.2, r1, r0, r3⟩
      · simp at hm

end Go.Proofs.YtjpjndfdncalfaaDoor

set_option maxRecDepth 100000
set_option linter.unusedSimpArgs false
set_option linter.unusedVariables false
namespace Go.Proofs.YtjpjndfdncalfaaDoor
open Go Ab Pl
theorem cmp_Or_int (l : List Int) : ACalls E.P 25 [.slice (.int .i64 0) (l.map (D.int .i64))] (.d (.int .i64 (orF l))) := by
  refine ACalls.intro E_ok Tryd.func25 rfl rfl Tryd.ntmps25 Tryd.results25 (Nat.le_of_ble_eq_true rfl) fun hok base S0 w0 => ?_
  have hll : l.length ≤ 9223372036854775807 := by have := (Ok_slice (hok (.slice (.int .i64 0) (l.map (D.int .i64))) (by simp))).1; simpa using this
  -- region 0
  refine AWp.rseq E_ok [0, 2, 3, 5, 6, 7, 8, 9, 14] fun K hK => ?_
  simp
  repeat refine ⟨by first | omega | assumption | (simp only [maxLen]; omega) | (intros; omega) | decide, ?_⟩
  refine hK _ ?_
  clear hK K
  -- region 1
  refine AWp.rseq E_ok [0, 2, 3, 5, 6, 7, 8, 9, 14] fun K hK => ?_
  simp
  repeat refine ⟨by first | omega | assumption | (simp only [maxLen]; omega) | (intros; omega) | decide, ?_⟩
  refine hK _ ?_
  clear hK K
  refine AWp.seq ?_
  -- region 2
  refine AWp.rseq E_ok [0, 2, 3, 5, 6, 7, 8, 9, 14] fun K hK => ?_
  simp
  repeat refine ⟨by first | omega | assumption | (simp only [maxLen]; omega) | (intros; omega) | decide, ?_⟩
  refine hK _ ?_
  clear hK K
  refine AWp.block ?_
  refine AWp.range (l := l) (F := orG) (tot := orF l) (fun k y => match y with | () => True) (fun k y => match y with | () => [(0, T.val ((D.int IntKind.i64 0).slice (List.map (D.int IntKind.i64) l))), (3, T.val (D.int IntKind.i64 0)), (6, T.val ((D.int IntKind.i64 0).slice (List.map (D.int IntKind.i64) l))), (7, T.val (D.int IntKind.i64 ↑l.length)), (8, T.val (.int .i64 (k : Int)))]) () ?_ rfl ?_ ?_
  · simp [Weak, TW]
  · first | exact trivial | (simp; omega) | simp
  rintro k ⟨⟩ hk hs hi
  try simp only at hi
  -- region 3
  refine AWp.rseq E_ok [0, 2, 3, 5, 6, 7, 8, 9, 14] fun K hK => ?_
  simp
  repeat refine ⟨by first | omega | assumption | (simp only [maxLen]; omega) | (intros; omega) | decide, ?_⟩
  refine hK _ ?_
  clear hK K
  refine AWp.seq ?_
  refine AWp.cond rfl (fun h9 => ?_) (fun h9 => ?_)
  · try simp at h9
    obtain ⟨x, hx, hxx, hd⟩ := at_indexG (l := l) h9
    rw [hd] at hs
    refine AWp.skip ?_
    repeat first | refine thenN ?_ | refine thenX ?_ | refine thenR ?_ | refine blockN ?_ | refine blockR ?_ | refine blockX ?_ | refine blockM rfl ?_
    refine AWp.seq ?_
    refine AWp.block ?_
    -- region 4
    refine AWp.rseq E_ok [0, 2, 3, 5, 6, 7, 8, 9, 14] fun K hK => ?_
    simp [h9, hx, hxx]
    repeat refine ⟨by first | omega | assumption | (simp only [maxLen]; omega) | (intros; omega) | decide, ?_⟩
    refine hK _ ?_
    clear hK K
    -- region 5
    refine AWp.rseq E_ok [0, 2, 3, 5, 6, 7, 8, 9, 14] fun K hK => ?_
    simp [h9, hx, hxx]
    repeat refine ⟨by first | omega | assumption | (simp only [maxLen]; omega) | (intros; omega) | decide, ?_⟩
    refine hK _ ?_
    clear hK K
    refine AWp.cond rfl (fun h14 => ?_) (fun h14 => ?_)
    · try simp at h14
      -- region 6
      refine AWp.rseq E_ok [0, 2, 3, 5, 6, 7, 8, 9, 14] fun K hK => ?_
      simp [h9, hx, hxx, h14]
      repeat refine ⟨by first | omega | assumption | (simp only [maxLen]; omega) | (intros; omega) | decide, ?_⟩
      refine hK _ ?_
      clear hK K
      refine AWp.ret ?_
      repeat first | refine thenN ?_ | refine thenX ?_ | refine thenR ?_ | refine blockN ?_ | refine blockR ?_ | refine blockX ?_ | refine blockM rfl ?_
      simp [orG, h14, orF] at hs
      simp [RetOk, RV, ← hs, orF] <;> simp_all
    · try simp at h14
      refine AWp.skip ?_
      repeat first | refine thenN ?_ | refine thenX ?_ | refine thenR ?_ | refine blockN ?_ | refine blockR ?_ | refine blockX ?_ | refine blockM rfl ?_
      -- region 7
      refine AWp.rend E_ok [0, 2, 3, 5, 6, 7, 8, 9, 14] fun K hK => ?_
      simp [h9, hx, hxx, h14]
      repeat refine ⟨by first | omega | assumption | (simp only [maxLen]; omega) | (intros; omega) | decide, ?_⟩
      refine hK _ ?_
      clear hK K
      repeat first | refine thenN ?_ | refine thenX ?_ | refine thenR ?_ | refine blockN ?_ | refine blockR ?_ | refine blockX ?_ | refine blockM rfl ?_
      have hw : IntKind.i64.wrap ((k : Int) + 1) = (k : Int) + 1 := by rw [wrap_i64] <;> omega
      simp [orG, h14, orF] at hs
      refine ⟨(()), h9, hs, ?_, ?_⟩
      · first | exact trivial | (simp; omega) | simp
      · simp [Weak, TW, hw, orF]
  · try simp at h9
    obtain rfl : k = l.length := by omega
    simp [orG] at hs
    refine AWp.exit ?_
    repeat first | refine thenN ?_ | refine thenX ?_ | refine thenR ?_ | refine blockN ?_ | refine blockR ?_ | refine blockX ?_ | refine blockM rfl ?_
    -- region 8
    refine AWp.rseq E_ok [0, 2, 3, 5, 6, 7, 8, 9, 14] fun K hK => ?_
    simp [h9]
    repeat refine ⟨by first | omega | assumption | (simp only [maxLen]; omega) | (intros; omega) | decide, ?_⟩
    refine hK _ ?_
    clear hK K
    refine AWp.ret ?_
    repeat first | refine thenN ?_ | refine thenX ?_ | refine thenR ?_ | refine blockN ?_ | refine blockR ?_ | refine blockX ?_ | refine blockM rfl ?_
    simp [RetOk, RV, ← hs, orF] <;> simp_all
end Go.Proofs.YtjpjndfdncalfaaDoor

set_option maxRecDepth 100000
set_option linter.unusedSimpArgs false
set_option linter.unusedVariables false
namespace Go.Proofs.YtjpjndfdncalfaaDoor
open Go Ab Pl
theorem cmp_isNaN_int (x : Int) : ACalls E.P 37 [.int .i64 x] (.d (.bool false)) := by
  refine ACalls.intro E_ok Tryd.func37 rfl rfl Tryd.ntmps37 Tryd.results37 (Nat.le_of_ble_eq_true rfl) fun hok base S0 w0 => ?_
  -- region 0
  refine AWp.rseq E_ok [0, 2] fun K hK => ?_
  simp
  repeat refine ⟨by first | omega | assumption | (simp only [maxLen]; omega) | (intros; omega) | decide, ?_⟩
  refine hK _ ?_
  clear hK K
  -- region 1
  refine AWp.rseq E_ok [0, 2] fun K hK => ?_
  simp
  repeat refine ⟨by first | omega | assumption | (simp only [maxLen]; omega) | (intros; omega) | decide, ?_⟩
  refine hK _ ?_
  clear hK K
  refine AWp.ret ?_
  repeat first | refine thenN ?_ | refine thenX ?_ | refine thenR ?_ | refine blockN ?_ | refine blockR ?_ | refine blockX ?_ | refine blockM rfl ?_
  simp [RetOk, RV, RVs]
end Go.Proofs.YtjpjndfdncalfaaDoor

set_option maxRecDepth 100000
set_option linter.unusedSimpArgs false
set_option linter.unusedVariables false
namespace Go.Proofs.YtjpjndfdncalfaaDoor
open Go Ab Pl
theorem cmp_Compare_int (x y : Int) : ACalls E.P 26 [.int .i64 x, .int .i64 y] (.d (.int .i64 (cmpI x y))) := by
  refine ACalls.intro E_ok Tryd.func26 rfl rfl Tryd.ntmps26 Tryd.results26 (Nat.le_of_ble_eq_true rfl) fun hok base S0 w0 => ?_
  -- region 0
  refine AWp.rseq E_ok [0, 1, 4, 5, 6, 11, 12, 13, 16, 19] fun K hK => ?_
  simp
  repeat refine ⟨by first | omega | assumption | (simp only [maxLen]; omega) | (intros; omega) | decide, ?_⟩
  refine hK _ ?_
  clear hK K
  -- region 1
  refine AWp.rseq E_ok [0, 1, 4, 5, 6, 11, 12, 13, 16, 19] fun K hK => ?_
  simp
  repeat refine ⟨by first | omega | assumption | (simp only [maxLen]; omega) | (intros; omega) | decide, ?_⟩
  refine meet.of (cmp_isNaN_int _) ?_
  simp
  repeat refine ⟨by first | omega | assumption | (simp only [maxLen]; omega) | (intros; omega) | decide, ?_⟩
  refine hK _ ?_
  clear hK K
  -- region 2
  refine AWp.rseq E_ok [0, 1, 4, 5, 6, 11, 12, 13, 16, 19] fun K hK => ?_
  simp
  repeat refine ⟨by first | omega | assumption | (simp only [maxLen]; omega) | (intros; omega) | decide, ?_⟩
  refine meet.of (cmp_isNaN_int _) ?_
  simp
  repeat refine ⟨by first | omega | assumption | (simp only [maxLen]; omega) | (intros; omega) | decide, ?_⟩
  refine hK _ ?_
  clear hK K
  refine AWp.seq ?_
  -- region 3
  refine AWp.rseq E_ok [0, 1, 4, 5, 6, 11, 12, 13, 16, 19] fun K hK => ?_
  simp
  repeat refine ⟨by first | omega | assumption | (simp only [maxLen]; omega) | (intros; omega) | decide, ?_⟩
  refine hK _ ?_
  clear hK K
  refine AWp.cond rfl (fun h11 => ?_) (fun h11 => ?_)
  · exact absurd h11 (by simp)
  · try simp at h11
    refine AWp.skip ?_
    repeat first | refine thenN ?_ | refine thenX ?_ | refine thenR ?_ | refine blockN ?_ | refine blockR ?_ | refine blockX ?_ | refine blockM rfl ?_
    refine AWp.seq ?_
    -- region 7
    refine AWp.rseq E_ok [0, 1, 4, 5, 6, 11, 12, 13, 16, 19] fun K hK => ?_
    simp [h11]
    repeat refine ⟨by first | omega | assumption | (simp only [maxLen]; omega) | (intros; omega) | decide, ?_⟩
    refine hK _ ?_
    clear hK K
    refine AWp.cond rfl (fun h13 => ?_) (fun h13 => ?_)
    · exact absurd h13 (by simp)
    · try simp at h13
      refine AWp.skip ?_
      repeat first | refine thenN ?_ | refine thenX ?_ | refine thenR ?_ | refine blockN ?_ | refine blockR ?_ | refine blockX ?_ | refine blockM rfl ?_
      refine AWp.seq ?_
      -- region 9
      refine AWp.rseq E_ok [0, 1, 4, 5, 6, 11, 12, 13, 16, 19] fun K hK => ?_
      simp [h11, h13]
      repeat refine ⟨by first | omega | assumption | (simp only [maxLen]; omega) | (intros; omega) | decide, ?_⟩
      refine hK _ ?_
      clear hK K
      refine AWp.cond rfl (fun h16 => ?_) (fun h16 => ?_)
      · try simp at h16
        have hb : cmpI x y = -1 := if_pos h16
        -- region 10
        refine AWp.rseq E_ok [0, 1, 4, 5, 6, 11, 12, 13, 16, 19] fun K hK => ?_
        simp [h11, h13, h16, hb]
        repeat refine ⟨by first | omega | assumption | (simp only [maxLen]; omega) | (intros; omega) | decide, ?_⟩
        refine hK _ ?_
        clear hK K
        refine AWp.ret ?_
        repeat first | refine thenN ?_ | refine thenX ?_ | refine thenR ?_ | refine blockN ?_ | refine blockR ?_ | refine blockX ?_ | refine blockM rfl ?_
        simp [RetOk, RV, hb]
      · try simp at h16
        refine AWp.skip ?_
        repeat first | refine thenN ?_ | refine thenX ?_ | refine thenR ?_ | refine blockN ?_ | refine blockR ?_ | refine blockX ?_ | refine blockM rfl ?_
        refine AWp.seq ?_
        -- region 11
        refine AWp.rseq E_ok [0, 1, 4, 5, 6, 11, 12, 13, 16, 19] fun K hK => ?_
        simp [h11, h13, h16]
        repeat refine ⟨by first | omega | assumption | (simp only [maxLen]; omega) | (intros; omega) | decide, ?_⟩
        refine hK _ ?_
        clear hK K
        refine AWp.cond rfl (fun h19 => ?_) (fun h19 => ?_)
        · try simp at h19
          have hb : cmpI x y = 1 := by unfold cmpI; rw [if_neg (by omega), if_pos h19]
          -- region 12
          refine AWp.rseq E_ok [0, 1, 4, 5, 6, 11, 12, 13, 16, 19] fun K hK => ?_
          simp [h11, h13, h16, h19, hb]
          repeat refine ⟨by first | omega | assumption | (simp only [maxLen]; omega) | (intros; omega) | decide, ?_⟩
          refine hK _ ?_
          clear hK K
          refine AWp.ret ?_
          repeat first | refine thenN ?_ | refine thenX ?_ | refine thenR ?_ | refine blockN ?_ | refine blockR ?_ | refine blockX ?_ | refine blockM rfl ?_
          simp [RetOk, RV, hb]
        · try simp at h19
          have hb : cmpI x y = 0 := by unfold cmpI; rw [if_neg (by omega), if_neg (by omega)]
          refine AWp.skip ?_
          repeat first | refine thenN ?_ | refine thenX ?_ | refine thenR ?_ | refine blockN ?_ | refine blockR ?_ | refine blockX ?_ | refine blockM rfl ?_
          -- region 13
          refine AWp.rseq E_ok [0, 1, 4, 5, 6, 11, 12, 13, 16, 19] fun K hK => ?_
          simp [h11, h13, h16, h19, hb]
          repeat refine ⟨by first | omega | assumption | (simp only [maxLen]; omega) | (intros; omega) | decide, ?_⟩
          refine hK _ ?_
          clear hK K
          refine AWp.ret ?_
          repeat first | refine thenN ?_ | refine thenX ?_ | refine thenR ?_ | refine blockN ?_ | refine blockR ?_ | refine blockX ?_ | refine blockM rfl ?_
          simp [RetOk, RV, hb]
end Go.Proofs.YtjpjndfdncalfaaDoor
