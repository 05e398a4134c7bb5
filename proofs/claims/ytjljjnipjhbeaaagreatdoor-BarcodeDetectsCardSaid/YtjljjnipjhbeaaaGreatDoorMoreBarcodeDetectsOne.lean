/-
  What the functions compute that the statement reaches: contracts, and the plain laws between them. Conditions stand at each theorem.
-/
import Derived.Test.YtjljjnipjhbeaaaGreatDoorWalkThree
set_option linter.unusedVariables false
set_option linter.unusedSimpArgs false
/- A string that becomes bytes which the call writes: a row of its own. -/
namespace Ab
open Go Go.RowKit

def bytesL (s : List UInt8) : List D := s.map fun b => .int .u8 (b.toNat : Int)

def cvB [Amb] (N : Nat) (dst : Option Nat) (σ : St) (K : St → Prop) (c : Prop) : Option (List Bool) → Bool → T → Prop
  | some [], true, .val (.str s) => c ∧ s.length ≤ 16777216 ∧ newO N dst σ (.own true (.int .u8 0) (bytesL s)) K
  | _, _, _ => False
@[simp] theorem cvB_str [Amb] {N : Nat} {dst : Option Nat} {σ : St} {K : St → Prop} {c : Prop} {s : List UInt8} : cvB N dst σ K c (some []) true (.val (.str s)) = (c ∧ s.length ≤ 16777216 ∧ newO N dst σ (.own true (.int .u8 0) (bytesL s)) K) := rfl

/-- As 'stp'; a string that becomes bytes is a row of its own. -/
def stpB [Amb] (E : Env) (N : Nat) (ops : Array Oper) (o : Oper) (σ : St) (K : St → Prop) : Prop :=
  match o.op with
  | .convert src dst x => cvB N o.dst σ K (rd σ.get [] x).1 (guardL ops σ o) (E.bytesOf src dst) (rd σ.get [] x).2
  | _ => stp E N ops o σ K
section
variable [Amb] {E : Env} {N : Nat} {ops : Array Oper} {σ : St} {K : St → Prop} {d : Option Nat} {ty : TypeId} {pos : String} {after : Array Edge} {guard : Option (Nat × Bool)} {x y : Operand} {src dst : TypeId}
@[simp] theorem stpB_move : stpB E N ops { dst := d, op := .move x, type := ty, pos := pos, after := after, guard := guard } σ K = stp E N ops { dst := d, op := .move x, type := ty, pos := pos, after := after, guard := guard } σ K := rfl
@[simp] theorem stpB_assign : stpB E N ops { dst := d, op := .assign x, type := ty, pos := pos, after := after, guard := guard } σ K = stp E N ops { dst := d, op := .assign x, type := ty, pos := pos, after := after, guard := guard } σ K := rfl
@[simp] theorem stpB_conv : stpB E N ops { dst := d, op := .convert src dst x, type := ty, pos := pos, after := after, guard := guard } σ K = cvB N d σ K (rd σ.get [] x).1 (guardL ops σ { dst := d, op := .convert src dst x, type := ty, pos := pos, after := after, guard := guard }) (E.bytesOf src dst) (rd σ.get [] x).2 := rfl
end

def walkB [Amb] (E : Env) (N : Nat) (ops : Array Oper) : List Oper → St → (St → Prop) → Prop
  | [], σ, K => K σ
  | o :: os, σ, K => stpB E N ops o σ fun σ' => walkB E N ops os σ' K
def laterB [Amb] (E : Env) (N : Nat) (ops : Array Oper) (os : List Oper) (K : St → Prop) : St → Prop := fun σ' => walkB E N ops os σ' K

section
variable {base : Nat} {S0 : Nat → Nat → Prop} {w0 : World} {N : Nat} {a : Act} {w : World} {bk : Pl → Option Nat} {E : Env} {P : Program} {σ : St} {g : Nat → T}

@[simp] theorem walkB_cons [Amb] {ops : Array Oper} {o : Oper} {os : List Oper} {K : St → Prop} : walkB E N ops (o :: os) σ K = stpB E N ops o σ (laterB E N ops os K) := rfl
@[simp] theorem walkB_nil [Amb] {ops : Array Oper} {K : St → Prop} : walkB E N ops [] σ K = K σ := rfl
@[simp] theorem laterB_eq [Amb] {ops : Array Oper} {os : List Oper} {K : St → Prop} : laterB E N ops os K σ = walkB E N ops os σ K := rfl

/-- A new row, wherever it comes from, becomes the row of slot d. -/
theorem RB.newRowW [Amb] (h : RB base S0 w0 N g a w bk) {d : Nat} (hd : d < N) (hno : ∀ s', s' ≠ d → d ∉ (g s').refs) {m : Bool} {z : D} {es : List D} {arr : Array Value} {ty : TypeId} {cap : Nat} {w' : World}
    (hbel : Below w.heap.size w w') (hws : w'.heap.size = w.heap.size + 1) (hhc : HC w' w.heap.size arr ty) (hsz : arr.size = cap * z.cells.length)
    (hcap : es.length ≤ cap) (hm : cap ≤ maxLen) (h1 : ∀ e ∈ es, e.cells.length = z.cells.length ∧ ∀ c ∈ e.cells, c.flat = true)
    (h2 : ∀ i e j c, es[i]? = some e → e.cells[j]? = some c → Rep w (stab base S0 g bk w.heap.size) c (arr.getD (i * z.cells.length + j) undef)) :
    ∃ bk', RB base S0 w0 N (upd g d (.own m z es)) (a.put (some d) (.slice (some (at' w.heap.size 0)) es.length cap)) w' bk' := by
  have hst : ∀ b o, stab base S0 g bk w.heap.size b o → stab base S0 (upd g d (.own m z es)) (setb (clr bk d) (d, 0) (some w.heap.size)) w'.heap.size b o :=
    fun b o hs => stab_new h _ (fun b hb => by simp at hb; omega) hbel.size hs
  refine ⟨_, h.putOwner hd hbel hno (ob := some w.heap.size) (fun b hb => by simp at hb; subst hb; omega) ?_ ?_ ?_⟩
  · show Hdr _ (setb _ _ _ (d, 0)) _ _ _
    simp only [setb, if_true]
    exact .inr ⟨_, cap, arr, ty, rfl, rfl, hhc, hsz, hcap, hm⟩
  · intro i m' z' es' ho b hb
    cases i with
    | succ i => simp [T.ownAt] at ho
    | zero =>
      simp only [T.ownAt, Option.some.injEq, Prod.mk.injEq] at ho; obtain ⟨rfl, rfl, rfl⟩ := ho
      simp only [setb, if_true, Option.some.injEq] at hb; subst hb
      refine ⟨h1, arr, ty, hhc, by rw [hsz]; exact Nat.mul_le_mul_right _ hcap, fun i e j c he hj => (h2 i e j c he hj).mono (fun _ _ hs => below_cell hbel (stab_lt h hs)) hst⟩
  · intro cs hb; cases hb

theorem bytesL_length (s : List UInt8) : (bytesL s).length = s.length := by simp [bytesL]

theorem step_bytesO [Amb] (hE : E.Ok) (h : RB base S0 w0 N σ.get a w bk) {ops : Array Oper} {o : Oper} (hg : guardL ops σ o = some []) {src dst : TypeId} {x : Operand} (ho : o.op = .convert src dst x) (hb : E.bytesOf src dst = true) {s : List UInt8}
    (hx : (rd σ.get [] x).2 = .val (.str s)) (hc : (rd σ.get [] x).1) (hl : s.length ≤ 16777216) {K : St → Prop} (hK : newO N o.dst σ (.own true (.int .u8 0) (bytesL s)) K) : Step E.P base S0 w0 N ops o K a w := by
  refine step_now h hg fun Q => ?_
  obtain ⟨e, h1, h2, h3⟩ := Env.bytesOf_ok hE hb
  obtain ⟨r1, _⟩ := rd_ok h nil_all x hc
  rw [hx] at r1
  generalize hv : a.eval x = v at r1
  cases r1 with | str _ hs =>
  have hr : (execOp a.eval o).run E.P w = .ok (.value (.slice (some (at' w.heap.size 0)) s.length (grownCap w s.length 0 e))) (Go.Lib.bytesWorld w e ⟨s.toArray⟩) := by
    have := Go.Lib.run_convert_string_bytes (P := E.P) w src dst e ⟨s.toArray⟩ h1 h2 h3
    simp only [execOp, ho, hv, Sem.run_bind, this, Result.andThen_ok, Sem.run_pure]
    rfl
  have hw : Below w.heap.size w (Go.Lib.bytesWorld w e ⟨s.toArray⟩) := ⟨rfl, rfl, rfl, by rw [Go.Lib.bytesWorld_size]; omega, fun k hk => Go.Lib.bytesWorld_at_old w e _ k hk⟩
  have hge := grownCap_ge w s.length 0 e
  have hcm := grownCap_le_maxLen w s.length 0 e hs
  refine wp_value hr ?_
  have hcz : (Go.Lib.bytesCells w e ⟨s.toArray⟩).size = grownCap w s.length 0 e := by
    simp only [Go.Lib.bytesCells, Array.size_append, Array.size_map, Array.size_replicate]
    have : (⟨s.toArray⟩ : ByteArray).size = s.length := by show s.toArray.size = _; simp
    rw [this]
    have : s.toArray.size = s.length := by simp
    omega
  cases hod : o.dst with
  | none => rw [hod] at hK; exact hK.elim
  | some d =>
    rw [hod] at hK
    obtain ⟨k1, k2, k3⟩ := hK
    obtain ⟨bk', hb'⟩ := h.newRowW (m := true) (z := .int .u8 0) (es := bytesL s) (cap := grownCap w s.length 0 e) (arr := Go.Lib.bytesCells w e ⟨s.toArray⟩) (ty := e) k1 (norefs_ok k2) hw (Go.Lib.bytesWorld_size w e _)
      (.inr (Go.Lib.bytesWorld_at_new w e _)) (by rw [hcz]; simp [D.cells]) (by rw [bytesL_length]; exact hge) hcm (fun x hx => by
        obtain ⟨b, _, rfl⟩ := List.mem_map.1 hx
        exact ⟨rfl, fun c hc => by simp [D.cells] at hc; subst hc; rfl⟩) (fun i x j c hi hj => by
        unfold bytesL at hi
        rw [List.getElem?_map] at hi
        cases hsi : s[i]? with
        | none => rw [hsi] at hi; cases hi
        | some b =>
          rw [hsi] at hi; simp at hi; subst hi
          have hj0 : j = 0 := by
            have := (List.getElem?_eq_some_iff.1 hj).1
            simp [D.cells] at this; exact this
          subst hj0
          have hc0 : c = .int .u8 (b.toNat : Int) := by simpa [D.cells] using hj.symm
          subst hc0
          have hi' := (List.getElem?_eq_some_iff.1 hsi).1
          have hb8 := UInt8.toNat_lt b
          have : (Go.Lib.bytesCells w e ⟨s.toArray⟩).getD (i * (D.int IntKind.u8 0).cells.length + 0) undef = .int .u8 (b.toNat : Int) := by
            have : i * (D.int IntKind.u8 0).cells.length + 0 = i := by simp [D.cells]
            rw [this, Array.getD_eq_getD_getElem?]
            simp only [Go.Lib.bytesCells]
            rw [Array.getElem?_append_left (by simpa using hi')]
            simp [hsi]
          rw [this]
          exact .int _ _ ⟨by rw [show IntKind.u8.min = 0 from by decide]; omega, by rw [show IntKind.u8.max = 255 from by decide]; omega⟩)
    rw [bytesL_length] at hb'
    exact ⟨_, k3, by rw [get_cons]; exact ⟨bk', hb'⟩⟩

theorem stpB_ok [Amb] (hE : E.Ok) (h : RB base S0 w0 N σ.get a w bk) {ops : Array Oper} {o : Oper} {K : St → Prop} (hs : stpB E N ops o σ K) : Step E.P base S0 w0 N ops o K a w := by
  unfold stpB at hs
  split at hs
  · rename_i src dst x ho
    generalize hg : guardL ops σ o = g at hs
    generalize hb : E.bytesOf src dst = b at hs
    generalize hx : (rd σ.get [] x).2 = t at hs
    unfold cvB at hs
    split at hs
    · exact step_bytesO hE h hg ho hb hx hs.1 hs.2.1 hs.2.2
    · exact hs.elim
  · exact stp_ok hE h hs

theorem walkB_ok [Amb] (hE : E.Ok) {ops : Array Oper} {Q : Exit → Act → World → Prop} {K : St → Prop} (hQ : ∀ a w, Kc base S0 w0 N K a w → Q .normal a w) : ∀ (l : List Oper) {σ : St} {a : Act} {w : World}, R base S0 w0 N σ.get a w →
    walkB E N ops l σ K → wpList E.P ops Q l a w
  | [], σ, a, w, h, hs => hQ a w ⟨σ, hs, h⟩
  | o :: l, σ, a, w, ⟨bk, h⟩, hs => by
    refine wpList_step fun K' hK' => ?_
    have hst := stpB_ok hE h (K := fun σ' => walkB E N ops l σ' K) hs Q
    split at hst
    · rename_i hw
      rw [if_pos hw]
      exact Oper.wp_mono (fun a' w' ⟨σ', h1, h2⟩ => hK' a' w' (walkB_ok hE hQ l h2 h1)) hst
    · rename_i hw
      rw [if_neg hw]
      obtain ⟨σ', h1, h2⟩ := hst
      exact hK' _ _ (walkB_ok hE hQ l h2 h1)

theorem AWp.regionO [Amb] (hE : E.Ok) (V : List Nat) {id : Nat} {ops : Array Oper} {Q : Exit → St → Prop} (h : walkB E N ops ops.toList σ fun σ' => Q .normal (clean V (settle V N σ' V))) : AWp E base S0 w0 N (.region id ops false) σ Q :=
  fun _ _ hR => wp_region_list (walkB_ok hE (fun _ _ ⟨_, hq, hr⟩ => ⟨_, hq, clean_ok V (settle_ok V V hr)⟩) _ hR h)

theorem AWp.rseqO [Amb] (hE : E.Ok) (V : List Nat) {id : Nat} {ops : Array Oper} {y : Code} {Q : Exit → St → Prop}
    (h : ∀ K : St → Prop, (∀ σ', AWp E base S0 w0 N y σ' Q → K σ') → walkB E N ops ops.toList σ (done V N K)) : AWp E base S0 w0 N (.seq (.region id ops false) y) σ Q :=
  AWp.seq (AWp.regionO hE V (h _ fun _ h => h))

theorem AWp.rendO [Amb] (hE : E.Ok) (V : List Nat) {id : Nat} {ops : Array Oper} {Q : Exit → St → Prop}
    (h : ∀ K : St → Prop, (∀ σ', Q .normal σ' → K σ') → walkB E N ops ops.toList σ (done V N K)) : AWp E base S0 w0 N (.region id ops false) σ Q :=
  AWp.regionO hE V (h _ fun _ h => h)
end
theorem bytesL_get {u : List UInt8} {i : Nat} {c : UInt8} (h : u[i]? = some c) : (bytesL u)[i]? = some (.int .u8 (c.toNat : Int)) := by simp [bytesL, h]
theorem bytesL_all (u : List UInt8) : (bytesL u).all isU8 = true := by simp [bytesL, isU8]
theorem bytesL_back (u : List UInt8) : (bytesL u).map byteOf = u := by
  simp only [bytesL, List.map_map]
  conv => rhs; rw [← List.map_id u]
  refine List.map_congr_left fun b _ => ?_
  simp [byteOf]
theorem bytesL_set (u : List UInt8) (i : Nat) (c : UInt8) : (bytesL u).set i (.int .u8 (c.toNat : Int)) = bytesL (u.set i c) := by simp [bytesL, List.map_set]
end Ab

namespace Pl
def kindP (p : Bool) : Int := if p = true then 3 else 2
theorem kindP_ok (p : Bool) : kindP p = 2 ∨ kindP p = 3 := by cases p <;> simp [kindP]
theorem mak_yes (p : Bool) {n : Int} (h0 : 0 ≤ n) (h1 : n ≤ 9999) : (makR (kindP p) n).2 = 0 := by
  unfold makR
  rw [if_neg (by have := kindP_ok p; omega), if_neg (by omega)]
theorem mak_good {k n : Int} (h : (makR k n).2 = 0) : (makR k n).1.length = 14 ∧ (makR k n).1.all isDig = true ∧ sumV (makR k n).1 % 10 = 0 := by
  have hp := par_mak h
  obtain ⟨h1, h2, h3, h4, h5, h6⟩ := parB_ok (s := (makR k n).1) (by rw [hp])
  exact ⟨h1, h2, (luh_valid h1 h2).1 h4⟩
theorem par_bad {s : List UInt8} (h : ¬ sumV s % 10 = 0) : ¬ (parB s).2.2 = 0 := fun e => by
  obtain ⟨h1, h2, h3, h4, h5, h6⟩ := parB_ok e
  exact h ((luh_valid h1 h2).1 h4)
end Pl

namespace Pl
open Go
/-- The digit c, turned x % 9 + 1 on. -/
def newB (c : UInt8) (x : Int) : UInt8 := UInt8.ofNat (48 + ((c.toNat - 48) + 1 + x.toNat % 9) % 10)
theorem newB_nat (c : UInt8) (x : Int) : (newB c x).toNat = 48 + ((c.toNat - 48) + 1 + x.toNat % 9) % 10 := by
  unfold newB; rw [UInt8.toNat_ofNat']; omega
theorem newB_wrap {c : UInt8} {x : Int} (h : isDig c = true) (hx : 0 ≤ x ∧ x ≤ 255) :
    IntKind.u8.wrap (48 + (IntKind.u8.wrap (IntKind.u8.wrap (IntKind.u8.wrap ((c.toNat : Int) - 48) + 1) + x.tmod 9)).tmod 10) = ((newB c x).toNat : Int) := by
  have hd := dB_rng h
  unfold dB at hd
  rw [newB_nat]
  rw [Int.tmod_eq_emod_of_nonneg hx.1]
  simp only [IntKind.wrap_u8]
  rw [Int.tmod_eq_emod_of_nonneg (by omega)]
  omega
theorem newB_dig {c : UInt8} {x : Int} : isDig (newB c x) = true := by
  have := newB_nat c x
  unfold isDig; simp; omega
theorem newB_ne {c : UInt8} {x : Int} (h : isDig c = true) (hx : 0 ≤ x) : dB c ≠ dB (newB c x) := by
  have hd := dB_rng h
  unfold dB at hd ⊢
  rw [newB_nat]; omega
theorem bad_set {u : List UInt8} {i : Nat} {c : UInt8} {x : Int} (hc : u[i]? = some c) (hs : sumV u % 10 = 0) (hd : u.all isDig = true) (hx : 0 ≤ x) : ¬ (parB (u.set i (newB c x))).2.2 = 0 := by
  obtain ⟨hi, he⟩ := List.getElem?_eq_some_iff.1 hc
  have hcd : isDig c = true := List.all_eq_true.1 hd _ (List.mem_of_getElem? hc)
  exact par_bad (sum_set hi hs hd newB_dig (by rw [he]; exact newB_ne hcd hx))
theorem bad_swap {u : List UInt8} {k : Nat} {x y : UInt8} (hx : u[k]? = some x) (hy : u[k + 1]? = some y) (hs : sumV u % 10 = 0) (hd : u.all isDig = true) (hxy : ¬ x = y) (h1 : ¬ (x = 48 ∧ y = 57)) (h2 : ¬ (x = 57 ∧ y = 48)) :
    ¬ (parB ((u.set k y).set (k + 1) x)).2.2 = 0 := by
  obtain ⟨hi, he⟩ := List.getElem?_eq_some_iff.1 hx
  obtain ⟨hj, hf⟩ := List.getElem?_eq_some_iff.1 hy
  have hu : ∀ {a b : UInt8}, dB a = dB b → a = b := fun {a b} h => by unfold dB at h; exact UInt8.toNat_inj.1 (by omega)
  have h48 : ∀ {a : UInt8}, dB a = 0 → a = 48 := fun {a} h => hu (b := 48) (by rw [h]; rfl)
  have h57 : ∀ {a : UInt8}, dB a = 9 → a = 57 := fun {a} h => hu (b := 57) (by rw [h]; rfl)
  have := sum_swap hj hs hd (by rw [he, hf]; exact fun e => hxy (hu e)) (by rw [he, hf]; exact fun e => h1 ⟨h48 e.1, h57 e.2⟩) (by rw [he, hf]; exact fun e => h2 ⟨h57 e.1, h48 e.2⟩)
  rw [he, hf] at this
  exact par_bad this
end Pl

set_option maxRecDepth 100000
set_option linter.unusedSimpArgs false
set_option linter.unusedVariables false
namespace Go.Proofs.YtjljjnipjhbeaaaGreatDoor
open Go Ab Pl
theorem law05_BarcodeDetects (p : Bool) (m : Int) (q : Int × Int) : ACalls E.P 9 [.bool p, .int .u16 m, .agg [.int .u8 q.1, .int .u8 q.2]] (.d (.bool true)) := by
  refine ACalls.intro E_ok Tryz.func9 rfl rfl Tryz.ntmps9 Tryz.results9 (Nat.le_of_ble_eq_true rfl) fun hok base S0 w0 => ?_
  have hm : 0 ≤ m ∧ m ≤ 65535 := by have h := Ok_int (hok (.int .u16 m) (by simp)); exact ⟨h.1, h.2⟩
  have hmt : (IntKind.i64.wrap m).tmod 10000 = m % 10000 := by rw [wrap_i64 (by omega) (by omega), Int.tmod_eq_emod_of_nonneg hm.1]
  have hmy := mak_yes p (n := m % 10000) (by omega) (by omega)
  obtain ⟨u, hu⟩ : ∃ u, (makR (kindP p) (m % 10000)).1 = u := ⟨_, rfl⟩
  obtain ⟨hul, hud, hus⟩ := mak_good hmy
  rw [hu] at hul hud hus
  have hulz : (u.length : Int) = 14 := by omega
  have hq1 : 0 ≤ q.1 ∧ q.1 ≤ 255 := by have h := hok (.agg [.int .u8 q.1, .int .u8 q.2]) (by simp); exact ⟨(Ok_int (Ok_agg h (.int .u8 q.1) (by simp))).1, (Ok_int (Ok_agg h (.int .u8 q.1) (by simp))).2⟩
  have hq2 : 0 ≤ q.2 ∧ q.2 ≤ 255 := by have h := hok (.agg [.int .u8 q.1, .int .u8 q.2]) (by simp); exact ⟨(Ok_int (Ok_agg h (.int .u8 q.2) (by simp))).1, (Ok_int (Ok_agg h (.int .u8 q.2) (by simp))).2⟩
  obtain ⟨i, hi⟩ : ∃ i : Nat, q.1 % 14 = (i : Int) := ⟨(q.1 % 14).toNat, by omega⟩
  have hi14 : i < u.length := by omega
  have hit : (IntKind.i64.wrap q.1).tmod 14 = (i : Int) := by rw [wrap_i64 (by omega) (by omega), Int.tmod_eq_emod_of_nonneg hq1.1]; exact hi
  obtain ⟨c, hc0⟩ : ∃ b, u[i]? = some b := ⟨u[i], by simp⟩
  have hcd : isDig c = true := List.all_eq_true.1 hud _ (List.mem_of_getElem? hc0)
  have hbi := Ab.bytesL_get hc0
  have hbl : (Ab.bytesL u).length = 14 := by rw [Ab.bytesL_length]; omega
  have hwr := newB_wrap (x := q.2) hcd hq2
  obtain ⟨v, hv⟩ : ∃ v, u.set i (newB c q.2) = v := ⟨_, rfl⟩
  have hvn : ¬ (parB v).2.2 = 0 := by rw [← hv]; exact bad_set hc0 hus hud hq2.1
  have hst : (Ab.bytesL u).set i (.int .u8 ((newB c q.2).toNat : Int)) = Ab.bytesL v := by rw [Ab.bytesL_set, hv]
  have hvl : v.length = 14 := by rw [← hv, List.length_set]; exact hul
  obtain ⟨k, hk⟩ : ∃ k : Nat, q.1 % 13 = (k : Int) := ⟨(q.1 % 13).toNat, by omega⟩
  have hk13 : k + 1 < u.length := by omega
  have hkt : (IntKind.i64.wrap q.1).tmod 13 = (k : Int) := by rw [wrap_i64 (by omega) (by omega), Int.tmod_eq_emod_of_nonneg hq1.1]; exact hk
  have hkw : IntKind.i64.wrap ((k : Int) + 1) = ((k + 1 : Nat) : Int) := by rw [wrap_i64 (by omega) (by omega)]; omega
  obtain ⟨x, hx0⟩ : ∃ b, u[k]? = some b := ⟨u[k], by simp⟩
  obtain ⟨y, hz0⟩ : ∃ b, u[k + 1]? = some b := ⟨u[k + 1], by simp⟩
  have hbx := Ab.bytesL_get hx0
  have hbz := Ab.bytesL_get hz0
  obtain ⟨w, hw⟩ : ∃ w, (u.set k y).set (k + 1) x = w := ⟨_, rfl⟩
  have hwl : w.length = 14 := by rw [← hw, List.length_set, List.length_set]; exact hul
  have hst2 : ((Ab.bytesL u).set k (.int .u8 (y.toNat : Int))).set (k + 1) (.int .u8 (x.toNat : Int)) = Ab.bytesL w := by rw [Ab.bytesL_set, Ab.bytesL_set, hw]
  -- region 0
  refine AWp.rseq E_ok [0, 1, 2, 5, 6, 7, 8, 9, 10, 11, 14, 15, 16, 17, 18, 21, 22, 37, 67, 101] fun K hK => ?_
  simp [bytesL_all, bytesL_back, hmt, hmy, hu, hulz, hit, hbi, hbl, hwr, hst, hvn, hkt, hkw, hbx, hbz, hst2]
  repeat refine ⟨by first | omega | assumption | (simp only [maxLen]; omega) | (intros; omega) | decide, ?_⟩
  refine hK _ ?_
  clear hK K
  -- region 1
  refine AWp.rseq E_ok [0, 1, 2, 5, 6, 7, 8, 9, 10, 11, 14, 15, 16, 17, 18, 21, 22, 37, 67, 101] fun K hK => ?_
  simp [bytesL_all, bytesL_back, hmt, hmy, hu, hulz, hit, hbi, hbl, hwr, hst, hvn, hkt, hkw, hbx, hbz, hst2]
  repeat refine ⟨by first | omega | assumption | (simp only [maxLen]; omega) | (intros; omega) | decide, ?_⟩
  refine hK _ ?_
  clear hK K
  refine AWp.join (ι := Unit) (fun _ => [(0, T.val (D.bool p)), (1, T.val (D.int IntKind.u16 m)), (2, T.val (D.agg [D.int IntKind.u8 q.fst, D.int IntKind.u8 q.snd])), (5, T.box [C.d (D.int IntKind.u8 q.fst), C.d (D.int IntKind.u8 q.snd)]), (7, T.val (.int .i64 (kindP p)))]) ?_ ?_
  · skip
    -- region 2
    refine AWp.rseq E_ok [0, 1, 2, 5, 6, 7, 8, 9, 10, 11, 14, 15, 16, 17, 18, 21, 22, 37, 67, 101] fun K hK => ?_
    simp [bytesL_all, bytesL_back, hmt, hmy, hu, hulz, hit, hbi, hbl, hwr, hst, hvn, hkt, hkw, hbx, hbz, hst2]
    repeat refine ⟨by first | omega | assumption | (simp only [maxLen]; omega) | (intros; omega) | decide, ?_⟩
    refine hK _ ?_
    clear hK K
    refine AWp.cond rfl (fun h22 => ?_) (fun h22 => ?_)
    · try simp at h22
      -- region 3
      refine AWp.rend E_ok [0, 1, 2, 5, 6, 7, 8, 9, 10, 11, 14, 15, 16, 17, 18, 21, 22, 37, 67, 101] fun K hK => ?_
      simp [bytesL_all, bytesL_back, hmt, hmy, hu, hulz, hit, hbi, hbl, hwr, hst, hvn, hkt, hkw, hbx, hbz, hst2, h22]
      repeat refine ⟨by first | omega | assumption | (simp only [maxLen]; omega) | (intros; omega) | decide, ?_⟩
      refine hK _ ?_
      clear hK K
      repeat first | refine thenN ?_ | refine thenX ?_ | refine thenR ?_ | refine blockN ?_ | refine blockR ?_ | refine blockX ?_ | refine blockM rfl ?_
      refine ⟨(), ?_⟩
      simp [Weak, TW, bytesL_all, bytesL_back, hmt, hmy, hu, hulz, hit, hbi, hbl, hwr, hst, hvn, hkt, hkw, hbx, hbz, hst2, h22, kindP]
    · try simp at h22
      refine AWp.skip ?_
      repeat first | refine thenN ?_ | refine thenX ?_ | refine thenR ?_ | refine blockN ?_ | refine blockR ?_ | refine blockX ?_ | refine blockM rfl ?_
      refine ⟨(), ?_⟩
      simp [Weak, TW, bytesL_all, bytesL_back, hmt, hmy, hu, hulz, hit, hbi, hbl, hwr, hst, hvn, hkt, hkw, hbx, hbz, hst2, h22, kindP]
  rintro ⟨⟩
  try simp only
  -- region 4
  refine AWp.rseq E_ok [0, 1, 2, 5, 6, 7, 8, 9, 10, 11, 14, 15, 16, 17, 18, 21, 22, 37, 67, 101] fun K hK => ?_
  simp [bytesL_all, bytesL_back, hmt, hmy, hu, hulz, hit, hbi, hbl, hwr, hst, hvn, hkt, hkw, hbx, hbz, hst2]
  repeat refine ⟨by first | omega | assumption | (simp only [maxLen]; omega) | (intros; omega) | decide, ?_⟩
  refine meet.of (barcode_Make (kindP p) (m % 10000)) ?_
  simp [bytesL_all, bytesL_back, hmt, hmy, hu, hulz, hit, hbi, hbl, hwr, hst, hvn, hkt, hkw, hbx, hbz, hst2]
  repeat refine ⟨by first | omega | assumption | (simp only [maxLen]; omega) | (intros; omega) | decide, ?_⟩
  refine hK _ ?_
  clear hK K
  refine AWp.seq ?_
  -- region 5
  refine AWp.rseq E_ok [0, 1, 2, 5, 6, 7, 8, 9, 10, 11, 14, 15, 16, 17, 18, 21, 22, 37, 67, 101] fun K hK => ?_
  simp [bytesL_all, bytesL_back, hmt, hmy, hu, hulz, hit, hbi, hbl, hwr, hst, hvn, hkt, hkw, hbx, hbz, hst2]
  repeat refine ⟨by first | omega | assumption | (simp only [maxLen]; omega) | (intros; omega) | decide, ?_⟩
  refine hK _ ?_
  clear hK K
  refine AWp.cond rfl (fun h37 => ?_) (fun h37 => ?_)
  · exact absurd h37 (by simp)
  · try simp at h37
    refine AWp.skip ?_
    repeat first | refine thenN ?_ | refine thenX ?_ | refine thenR ?_ | refine blockN ?_ | refine blockR ?_ | refine blockX ?_ | refine blockM rfl ?_
    -- region 7
    refine AWp.rseq E_ok [0, 1, 2, 5, 6, 7, 8, 9, 10, 11, 14, 15, 16, 17, 18, 21, 22, 37, 67, 101] fun K hK => ?_
    simp [bytesL_all, bytesL_back, hmt, hmy, hu, hulz, hit, hbi, hbl, hwr, hst, hvn, hkt, hkw, hbx, hbz, hst2]
    repeat refine ⟨by first | omega | assumption | (simp only [maxLen]; omega) | (intros; omega) | decide, ?_⟩
    refine hK _ ?_
    clear hK K
    -- region 8
    refine AWp.rseqO E_ok [0, 1, 2, 5, 6, 7, 8, 9, 10, 11, 14, 15, 16, 17, 18, 21, 22, 37, 67, 101] fun K hK => ?_
    simp [bytesL_all, bytesL_back, hmt, hmy, hu, hulz, hit, hbi, hbl, hwr, hst, hvn, hkt, hkw, hbx, hbz, hst2]
    repeat refine ⟨by first | omega | assumption | (simp only [maxLen]; omega) | (intros; omega) | decide, ?_⟩
    refine hK _ ?_
    clear hK K
    -- region 9
    refine AWp.rseqT E_ok mixed [0, 1, 2, 5, 6, 7, 8, 9, 10, 11, 14, 15, 16, 17, 18, 21, 22, 37, 67, 101] 14 (by kernel_rfl) fun K hK => ?_
    simp [bytesL_all, bytesL_back, hmt, hmy, hu, hulz, hit, hbi, hbl, hwr, hst, hvn, hkt, hkw, hbx, hbz, hst2]
    repeat refine ⟨by first | omega | assumption | (simp only [maxLen]; omega) | (intros; omega) | decide, ?_⟩
    refine hK _ ?_
    clear hK K
    refine AWp.seq ?_
    -- region 10
    refine AWp.rseq E_ok [0, 1, 2, 5, 6, 7, 8, 9, 10, 11, 14, 15, 16, 17, 18, 21, 22, 37, 67, 101] fun K hK => ?_
    simp [bytesL_all, bytesL_back, hmt, hmy, hu, hulz, hit, hbi, hbl, hwr, hst, hvn, hkt, hkw, hbx, hbz, hst2]
    repeat refine ⟨by first | omega | assumption | (simp only [maxLen]; omega) | (intros; omega) | decide, ?_⟩
    refine meet.of (barcode_Parse v) ?_
    simp [bytesL_all, bytesL_back, hmt, hmy, hu, hulz, hit, hbi, hbl, hwr, hst, hvn, hkt, hkw, hbx, hbz, hst2]
    repeat refine ⟨by first | omega | assumption | (simp only [maxLen]; omega) | (intros; omega) | decide, ?_⟩
    refine hK _ ?_
    clear hK K
    -- region 11
    refine AWp.rseq E_ok [0, 1, 2, 5, 6, 7, 8, 9, 10, 11, 14, 15, 16, 17, 18, 21, 22, 37, 67, 101] fun K hK => ?_
    simp [bytesL_all, bytesL_back, hmt, hmy, hu, hulz, hit, hbi, hbl, hwr, hst, hvn, hkt, hkw, hbx, hbz, hst2]
    repeat refine ⟨by first | omega | assumption | (simp only [maxLen]; omega) | (intros; omega) | decide, ?_⟩
    refine hK _ ?_
    clear hK K
    refine AWp.cond rfl (fun h67 => ?_) (fun h67 => ?_)
    · try simp at h67
      exact absurd (by simpa using h67) hvn
    · try simp at h67
      refine AWp.skip ?_
      repeat first | refine thenN ?_ | refine thenX ?_ | refine thenR ?_ | refine blockN ?_ | refine blockR ?_ | refine blockX ?_ | refine blockM rfl ?_
      -- region 13
      refine AWp.rseqO E_ok [0, 1, 2, 5, 6, 7, 8, 9, 10, 11, 14, 15, 16, 17, 18, 21, 22, 37, 67, 101] fun K hK => ?_
      simp [bytesL_all, bytesL_back, hmt, hmy, hu, hulz, hit, hbi, hbl, hwr, hst, hvn, hkt, hkw, hbx, hbz, hst2]
      repeat refine ⟨by first | omega | assumption | (simp only [maxLen]; omega) | (intros; omega) | decide, ?_⟩
      refine hK _ ?_
      clear hK K
      -- region 14
      refine AWp.rseq E_ok [0, 1, 2, 5, 6, 7, 8, 9, 10, 11, 14, 15, 16, 17, 18, 21, 22, 37, 67, 101] fun K hK => ?_
      simp [bytesL_all, bytesL_back, hmt, hmy, hu, hulz, hit, hbi, hbl, hwr, hst, hvn, hkt, hkw, hbx, hbz, hst2]
      repeat refine ⟨by first | omega | assumption | (simp only [maxLen]; omega) | (intros; omega) | decide, ?_⟩
      refine hK _ ?_
      clear hK K
      -- region 15
      refine AWp.rseqQ E_ok mixed [0, 1, 2, 5, 6, 7, 8, 9, 10, 11, 14, 15, 16, 17, 18, 21, 22, 37, 67, 101] (by kernel_rfl) fun K hK => ?_
      simp [bytesL_all, bytesL_back, hmt, hmy, hu, hulz, hit, hbi, hbl, hwr, hst, hvn, hkt, hkw, hbx, hbz, hst2]
      repeat refine ⟨by first | omega | assumption | (simp only [maxLen]; omega) | (intros; omega) | decide, ?_⟩
      refine hK _ ?_
      clear hK K
      refine AWp.seq ?_
      -- region 16
      refine AWp.rseq E_ok [0, 1, 2, 5, 6, 7, 8, 9, 10, 11, 14, 15, 16, 17, 18, 21, 22, 37, 67, 101] fun K hK => ?_
      simp [bytesL_all, bytesL_back, hmt, hmy, hu, hulz, hit, hbi, hbl, hwr, hst, hvn, hkt, hkw, hbx, hbz, hst2]
      repeat refine ⟨by first | omega | assumption | (simp only [maxLen]; omega) | (intros; omega) | decide, ?_⟩
      refine hK _ ?_
      clear hK K
      refine AWp.cond rfl (fun h101 => ?_) (fun h101 => ?_)
      · try simp at h101
        -- region 17
        refine AWp.rseq E_ok [0, 1, 2, 5, 6, 7, 8, 9, 10, 11, 14, 15, 16, 17, 18, 21, 22, 37, 67, 101] fun K hK => ?_
        simp [bytesL_all, bytesL_back, hmt, hmy, hu, hulz, hit, hbi, hbl, hwr, hst, hvn, hkt, hkw, hbx, hbz, hst2]
        repeat refine ⟨by first | omega | assumption | (simp only [maxLen]; omega) | (intros; omega) | decide, ?_⟩
        refine meet.of (law05_alive) ?_
        simp [bytesL_all, bytesL_back, hmt, hmy, hu, hulz, hit, hbi, hbl, hwr, hst, hvn, hkt, hkw, hbx, hbz, hst2]
        repeat refine ⟨by first | omega | assumption | (simp only [maxLen]; omega) | (intros; omega) | decide, ?_⟩
        refine hK _ ?_
        clear hK K
        refine AWp.ret ?_
        repeat first | refine thenN ?_ | refine thenX ?_ | refine thenR ?_ | refine blockN ?_ | refine blockR ?_ | refine blockX ?_ | refine blockM rfl ?_
        simp [RetOk, RV] <;> assumption
      · try simp at h101
        have hwn : ¬ (parB w).2.2 = 0 := by rw [← hw]; exact bad_swap hx0 hz0 hus hud (fun e => h101.1.1 (by rw [e])) (fun e => h101.1.2 (by rw [e.1]; rfl) (by rw [e.2]; rfl)) (fun e => h101.2 (by rw [e.1]; rfl) (by rw [e.2]; rfl))
        refine AWp.skip ?_
        repeat first | refine thenN ?_ | refine thenX ?_ | refine thenR ?_ | refine blockN ?_ | refine blockR ?_ | refine blockX ?_ | refine blockM rfl ?_
        -- region 18
        refine AWp.rseq E_ok [0, 1, 2, 5, 6, 7, 8, 9, 10, 11, 14, 15, 16, 17, 18, 21, 22, 37, 67, 101] fun K hK => ?_
        simp [bytesL_all, bytesL_back, hmt, hmy, hu, hulz, hit, hbi, hbl, hwr, hst, hvn, hkt, hkw, hbx, hbz, hst2, hwn]
        repeat refine ⟨by first | omega | assumption | (simp only [maxLen]; omega) | (intros; omega) | decide, ?_⟩
        refine hK _ ?_
        clear hK K
        -- region 19
        refine AWp.rseq E_ok [0, 1, 2, 5, 6, 7, 8, 9, 10, 11, 14, 15, 16, 17, 18, 21, 22, 37, 67, 101] fun K hK => ?_
        simp [bytesL_all, bytesL_back, hmt, hmy, hu, hulz, hit, hbi, hbl, hwr, hst, hvn, hkt, hkw, hbx, hbz, hst2, hwn]
        repeat refine ⟨by first | omega | assumption | (simp only [maxLen]; omega) | (intros; omega) | decide, ?_⟩
        refine meet.of (barcode_Parse w) ?_
        simp [bytesL_all, bytesL_back, hmt, hmy, hu, hulz, hit, hbi, hbl, hwr, hst, hvn, hkt, hkw, hbx, hbz, hst2, hwn]
        repeat refine ⟨by first | omega | assumption | (simp only [maxLen]; omega) | (intros; omega) | decide, ?_⟩
        refine hK _ ?_
        clear hK K
        -- region 20
        refine AWp.rseq E_ok [0, 1, 2, 5, 6, 7, 8, 9, 10, 11, 14, 15, 16, 17, 18, 21, 22, 37, 67, 101] fun K hK => ?_
        simp [bytesL_all, bytesL_back, hmt, hmy, hu, hulz, hit, hbi, hbl, hwr, hst, hvn, hkt, hkw, hbx, hbz, hst2, hwn]
        repeat refine ⟨by first | omega | assumption | (simp only [maxLen]; omega) | (intros; omega) | decide, ?_⟩
        refine meet.of (law05_alive) ?_
        simp [bytesL_all, bytesL_back, hmt, hmy, hu, hulz, hit, hbi, hbl, hwr, hst, hvn, hkt, hkw, hbx, hbz, hst2, hwn]
        repeat refine ⟨by first | omega | assumption | (simp only [maxLen]; omega) | (intros; omega) | decide, ?_⟩
        refine hK _ ?_
        clear hK K
        refine AWp.ret ?_
        repeat first | refine thenN ?_ | refine thenX ?_ | refine thenR ?_ | refine blockN ?_ | refine blockR ?_ | refine blockX ?_ | refine blockM rfl ?_
        simp [RetOk, RV] <;> assumption
end Go.Proofs.YtjljjnipjhbeaaaGreatDoor
