/-
  What the functions compute that the statement reaches: contracts, and the plain laws between them. Conditions stand at each theorem.
-/
import Derived.Test.YtnmbnihbeggmgaaWalkTwo
set_option linter.unusedVariables false
set_option linter.unusedSimpArgs false
/- The examples of the policy chapter, and the laws' own arguments. -/
namespace Lib
open Go Ab
def nilF {α β : Type} (_ : α) (_ : List β) : Unit := ()
def ra : Rule := ⟨0, 0, 0, 14, 0, 0, 0, 0, 0, 7, 7, 0, 0⟩
def rb : Rule := ⟨1, 0, 0, 21, 0, 0, 0, 0, 0, 7, 7, 0, 0⟩
def rc : Rule := ⟨0, 2, 1, 28, 0, 0, 0, 0, 0, 7, 7, 0, 0⟩
def rs : Rule := ⟨0, 0, 0, 6, 0, 0, 0, 0, 0, 7, 7, 0, 0⟩
def rf : Rule := ⟨0, 0, 0, 14, 0, 0, 0, 0, 0, 7, 7, 100, 0⟩
def encQry (q : Qry) : D := .agg [.int .i64 q.p, .int .i64 q.i, .int .i64 q.b]
theorem encQry_eq (q : Qry) : encQry q = .agg [.int .i64 q.p, .int .i64 q.i, .int .i64 q.b] := rfl
def encQ8 (q : Qry) : D := .agg [.int .u8 q.p, .int .u8 q.i, .int .u8 q.b]
theorem encQ8_eq (q : Qry) : encQ8 q = .agg [.int .u8 q.p, .int .u8 q.i, .int .u8 q.b] := rfl
structure Days where
  day : Int
  til : Int
def encDays (x : Days) : D := .agg [.int .i64 x.day, .int .i64 x.til]
theorem encDays_eq (x : Days) : encDays x = .agg [.int .i64 x.day, .int .i64 x.til] := rfl
structure Renewal where
  loan : Loan
  days : Days
def encRenewal (x : Renewal) : D := .agg [.int .i64 x.loan.item, .int .i64 x.loan.patron, .int .i64 x.loan.out, .int .i64 x.loan.due, .int .i64 x.loan.ren, .bool x.loan.rcl, .int .i64 x.days.day, .int .i64 x.days.til]
theorem encRenewal_eq (x : Renewal) : encRenewal x = .agg [.int .i64 x.loan.item, .int .i64 x.loan.patron, .int .i64 x.loan.out, .int .i64 x.loan.due, .int .i64 x.loan.ren, .bool x.loan.rcl, .int .i64 x.days.day, .int .i64 x.days.til] := rfl
theorem rule_beq (x y : Rule) : (x == y) = (x.r0 == y.r0 && (x.r1 == y.r1 && (x.r2 == y.r2 && (x.r3 == y.r3 && (x.r4 == y.r4 && (x.fine == y.fine && (x.grace == y.grace && (x.maxFine == y.maxFine && (x.r8 == y.r8 && (x.r9 == y.r9 && (x.r10 == y.r10 && (x.r11 == y.r11 && x.r12 == y.r12)))))))))))) := by
  rw [Bool.eq_iff_iff]; cases x; cases y; simp
theorem fits_found {l : List Rule} {q : Qry} {x : Rule} (hx : x ∈ l) (hf : fitsB x q = true) : foundR l q = true := by
  rcases best_row l q with ⟨_, _, h3⟩ | ⟨h1, _⟩
  · rw [h3 x hx] at hf; cases hf
  · exact h1
def dropF (m : Int) : Bool → List Int → Bool
  | t, [] => t
  | t, h :: r => dropF m (t || h == m) r
theorem dropF_or (m : Int) : ∀ (l : List Int) (t : Bool), dropF m t l = (t || l.contains m)
  | [], t => by simp [dropF]
  | h :: r, t => by
    simp only [dropF]; rw [dropF_or m r]
    have e : (h == m) = (m == h) := by rw [Bool.eq_iff_iff]; simp; exact eq_comm
    rw [List.contains_cons, e, Bool.or_assoc]
theorem dropF_eq (m : Int) (l : List Int) : dropF m false l = l.contains m := by rw [dropF_or]; simp
end Lib

set_option maxRecDepth 100000
set_option linter.unusedSimpArgs false
set_option linter.unusedVariables false
namespace Go.Proofs.Ytnmbnihbeggmgaa
open Go Ab Lib
theorem open_int : Opens Try.prog 3 (fun n => [D.int .i64 n]) (fun n => IntKind.min .i64 ≤ n ∧ n ≤ IntKind.max .i64) := Opens.int Try.underlying3
theorem openV_int : OpensV Try.prog 3 (fun n => D.int .i64 n) (fun n => IntKind.min .i64 ≤ n ∧ n ≤ IntKind.max .i64) := Opens.one open_int (cells_int' Try.underlying3)
theorem open_api_Errno : Opens Try.prog 32 (fun n => [D.int .i64 n]) (fun n => IntKind.min .i64 ≤ n ∧ n ≤ IntKind.max .i64) := Opens.int Try.underlying32
theorem openV_api_Errno : OpensV Try.prog 32 (fun n => D.int .i64 n) (fun n => IntKind.min .i64 ≤ n ∧ n ≤ IntKind.max .i64) := Opens.one open_api_Errno (cells_int' Try.underlying32)
theorem open_uint8 : Opens Try.prog 5 (fun n => [D.int .u8 n]) (fun n => IntKind.min .u8 ≤ n ∧ n ≤ IntKind.max .u8) := Opens.int Try.underlying5
theorem openV_uint8 : OpensV Try.prog 5 (fun n => D.int .u8 n) (fun n => IntKind.min .u8 ≤ n ∧ n ≤ IntKind.max .u8) := Opens.one open_uint8 (cells_int' Try.underlying5)
theorem open_bool : Opens Try.prog 4 (fun b => [D.bool b]) (fun _ => True) := Opens.bool Try.underlying4
theorem openV_bool : OpensV Try.prog 4 (fun b => D.bool b) (fun _ => True) := Opens.one open_bool (cells_bool' Try.underlying4)
theorem open_string : Opens Try.prog 9 (fun s => [D.str s]) (fun s => s.length ≤ Go.maxLen) := Opens.str Try.underlying9
theorem openV_string : OpensV Try.prog 9 (fun s => D.str s) (fun s => s.length ≤ Go.maxLen) := Opens.one open_string (cells_str' Try.underlying9)
theorem open_s_int : Opens Try.prog 24 (fun l : List Int => [encInts l]) (fun l => l.length ≤ Go.maxLen) :=
  (Opens.slice Try.underlying24 (by kernel_rfl) (by decide) open_int (D.int .i64) (fun _ => rfl) (.int .i64 0) rfl).map id (fun _ => rfl) (fun _ h => h.2)
theorem openV_s_int : OpensV Try.prog 24 encInts (fun l => l.length ≤ Go.maxLen) := Opens.one open_s_int (cells_slice' Try.underlying24)
theorem open_api_Charge : Opens Try.prog 44 (fun c : Charge => (encCharge c).cells) (fun _ => True) :=
  (Opens.struct Try.underlying44 (OpensF.cons (n := 1) rfl (by kernel_rfl) open_int (fun _ => rfl) (OpensF.cons (n := 1) rfl (by kernel_rfl) open_int (fun _ => rfl) (OpensF.cons (n := 1) rfl (by kernel_rfl) open_int (fun _ => rfl) (OpensF.cons (n := 1) rfl (by kernel_rfl) open_int (fun _ => rfl) (OpensF.cons (n := 1) rfl (by kernel_rfl) open_int (fun _ => rfl) (OpensF.cons (n := 1) rfl (by kernel_rfl) open_int (fun _ => rfl) (OpensF.cons (n := 1) rfl (by kernel_rfl) open_int (fun _ => rfl) OpensF.nil))))))) (fun _ => by kernel_rfl)).map (fun p => (⟨p.1, p.2.1, p.2.2.1, p.2.2.2.1, p.2.2.2.2.1, p.2.2.2.2.2.1, p.2.2.2.2.2.2.1⟩ : Charge)) (fun _ => rfl) (fun _ _ => trivial)
theorem openV_api_Charge : OpensV Try.prog 44 encCharge (fun _ => True) := Opens.agg Try.underlying44 open_api_Charge
theorem open_s_api_Charge : Opens Try.prog 31 (fun l : List Charge => [encCharges l]) (fun l => l.length ≤ Go.maxLen) :=
  (Opens.slice Try.underlying31 (by kernel_rfl) (by decide) open_api_Charge encCharge (fun _ => rfl) (encCharge z0) rfl).map id (fun _ => rfl) (fun _ h => h.2)
theorem openV_s_api_Charge : OpensV Try.prog 31 encCharges (fun l => l.length ≤ Go.maxLen) := Opens.one open_s_api_Charge (cells_slice' Try.underlying31)
theorem open_api_Rule : Opens Try.prog 23 (fun c : Rule => (encRule c).cells) (fun _ => True) :=
  (Opens.struct Try.underlying23 (OpensF.cons (n := 1) rfl (by kernel_rfl) open_int (fun _ => rfl) (OpensF.cons (n := 1) rfl (by kernel_rfl) open_int (fun _ => rfl) (OpensF.cons (n := 1) rfl (by kernel_rfl) open_int (fun _ => rfl) (OpensF.cons (n := 1) rfl (by kernel_rfl) open_int (fun _ => rfl) (OpensF.cons (n := 1) rfl (by kernel_rfl) open_int (fun _ => rfl) (OpensF.cons (n := 1) rfl (by kernel_rfl) open_int (fun _ => rfl) (OpensF.cons (n := 1) rfl (by kernel_rfl) open_int (fun _ => rfl) (OpensF.cons (n := 1) rfl (by kernel_rfl) open_int (fun _ => rfl) (OpensF.cons (n := 1) rfl (by kernel_rfl) open_int (fun _ => rfl) (OpensF.cons (n := 1) rfl (by kernel_rfl) open_int (fun _ => rfl) (OpensF.cons (n := 1) rfl (by kernel_rfl) open_int (fun _ => rfl) (OpensF.cons (n := 1) rfl (by kernel_rfl) open_int (fun _ => rfl) (OpensF.cons (n := 1) rfl (by kernel_rfl) open_int (fun _ => rfl) OpensF.nil))))))))))))) (fun _ => by kernel_rfl)).map (fun p => (⟨p.1, p.2.1, p.2.2.1, p.2.2.2.1, p.2.2.2.2.1, p.2.2.2.2.2.1, p.2.2.2.2.2.2.1, p.2.2.2.2.2.2.2.1, p.2.2.2.2.2.2.2.2.1, p.2.2.2.2.2.2.2.2.2.1, p.2.2.2.2.2.2.2.2.2.2.1, p.2.2.2.2.2.2.2.2.2.2.2.1, p.2.2.2.2.2.2.2.2.2.2.2.2.1⟩ : Rule)) (fun _ => rfl) (fun _ _ => trivial)
theorem openV_api_Rule : OpensV Try.prog 23 encRule (fun _ => True) := Opens.agg Try.underlying23 open_api_Rule
theorem open_api_Calendar : Opens Try.prog 26 (fun c : Cal => (encCal c).cells) (fun _ => True) :=
  (Opens.struct Try.underlying26 (OpensF.cons (n := 1) rfl (by kernel_rfl) open_int (fun _ => rfl) (OpensF.cons (n := 1) rfl (by kernel_rfl) open_s_int (fun _ => rfl) OpensF.nil)) (fun _ => by kernel_rfl)).map (fun p => (⟨p.1, p.2.1⟩ : Cal)) (fun _ => rfl) (fun _ _ => trivial)
theorem openV_api_Calendar : OpensV Try.prog 26 encCal (fun _ => True) := Opens.agg Try.underlying26 open_api_Calendar
theorem open_a2_int : Opens Try.prog 45 (fun p : Int × Int => [D.int .i64 p.1, D.int .i64 p.2]) (fun _ => True) :=
  (Opens.arr (n := 2) Try.underlying45 (by kernel_rfl) (by kernel_rfl) open_int).mapOk (fun l => (l.getD 0 0, l.getD 1 0)) (fun l h => by obtain ⟨h1, _⟩ := h; match l, h1 with | [x0, x1], _ => rfl) (fun _ _ => trivial)
theorem openV_a2_int : OpensV Try.prog 45 (fun p : Int × Int => D.agg [D.int .i64 p.1, D.int .i64 p.2]) (fun _ => True) := Opens.aggA Try.underlying45 open_a2_int

end Go.Proofs.Ytnmbnihbeggmgaa
