/-
  What the functions compute that the statement reaches: contracts, and the plain laws between them. Conditions stand at each theorem.
-/
import Derived.Test.YtjljjnipjhbeaaaGreatDoorWalkTwo
set_option linter.unusedVariables false
set_option linter.unusedSimpArgs false
set_option maxRecDepth 100000
set_option linter.unusedSimpArgs false
set_option linter.unusedVariables false
namespace Go.Proofs.YtjljjnipjhbeaaaGreatDoor
open Go Ab Pl
theorem barcode_Parse (s : List UInt8) : ACalls E.P 17 [.str s] (.tup [.int .i64 (parB s).1, .int .i64 (parB s).2.1, .int .i64 (parB s).2.2]) := by
  refine ACalls.intro E_ok Tryz.func17 rfl rfl Tryz.ntmps17 Tryz.results17 (Nat.le_of_ble_eq_true rfl) fun hok base S0 w0 => ?_
  -- region 0
  refine AWp.rseq E_ok [0, 2, 3, 4, 5, 7, 8, 26, 38, 50] fun K hK => ?_
  simp
  try simp (disch := omega) only [wrap_i64]
  repeat refine ⟨by first | omega | assumption | (simp only [maxLen]; omega) | (intros; omega) | decide, ?_⟩
  refine hK _ ?_
  clear hK K
  refine AWp.seq ?_
  rcases Decidable.em (s.length = 14) with hL | hL
  · skip
    have h0l : 0 < s.length := by omega
    obtain ⟨b0, hb0⟩ : ∃ b, s[0]? = some b := ⟨s[0], by simp⟩
    have hb1 : s[0]'h0l = b0 := (List.getElem?_eq_some_iff.1 hb0).2
    have hg0 : s.getD 0 0 = b0 := by rw [List.getD_eq_getElem?_getD, hb0]; rfl
    -- region 1
    refine AWp.rseq E_ok [0, 2, 3, 4, 5, 7, 8, 26, 38, 50] fun K hK => ?_
    simp [hL, hb0, hb1]
    try simp (disch := omega) only [wrap_i64]
    repeat refine ⟨by first | omega | assumption | (simp only [maxLen]; omega) | (intros; omega) | decide, ?_⟩
    refine meet.of (barcode_digits s) ?_
    simp [hL, hb0, hb1]
    try simp (disch := omega) only [wrap_i64]
    repeat refine ⟨by first | omega | assumption | (simp only [maxLen]; omega) | (intros; omega) | decide, ?_⟩
    refine hK _ ?_
    clear hK K
    refine AWp.cond rfl (fun h26 => ?_) (fun h26 => ?_)
    · try simp at h26
      have hb : parB s = (0, 0, 3) := by first | exact par_no hg0 h26 | exact if_pos (.inl hL)
      -- region 2
      refine AWp.rseq E_ok [0, 2, 3, 4, 5, 7, 8, 26, 38, 50] fun K hK => ?_
      simp [hL, hb0, hb1]
      try simp (disch := omega) only [wrap_i64]
      repeat refine ⟨by first | omega | assumption | (simp only [maxLen]; omega) | (intros; omega) | decide, ?_⟩
      refine hK _ ?_
      clear hK K
      refine AWp.ret ?_
      repeat first | refine thenN ?_ | refine thenX ?_ | refine thenR ?_ | refine blockN ?_ | refine blockR ?_ | refine blockX ?_ | refine blockM rfl ?_
      simp [RetOk, RV, RVs, hb]
    · try simp at h26
      have hall : s.all isDig = true := by simpa using h26.1
      have h05 : b0 = 50 ∨ b0 = 51 := by by_cases h : b0 = 50 <;> first | exact .inl h | exact .inr (nat_u8 (y := 51) (h26.2 (fun e => h (nat_u8 (y := 50) e))))
      obtain ⟨hp1, hp2, hp3, hp4⟩ := parB_pre hL hall (hg0 ▸ h05)
      have hlr := luhN_rng (s.take 13)
      have h13l : 13 < s.length := by omega
      obtain ⟨c, hc0⟩ : ∃ b, s[13]? = some b := ⟨s[13], by simp⟩
      have hc1 : s[13]'h13l = c := (List.getElem?_eq_some_iff.1 hc0).2
      have hg13 : s.getD 13 0 = c := by rw [List.getD_eq_getElem?_getD, hc0]; rfl
      have hcd := dB_wrap (List.all_eq_true.1 hall c (List.mem_of_getElem? hc0))
      have hbd := dB_wrap (List.all_eq_true.1 hall b0 (List.mem_of_getElem? hb0))
      have hcr := dB_rng (List.all_eq_true.1 hall c (List.mem_of_getElem? hc0))
      have hbr := dB_rng (List.all_eq_true.1 hall b0 (List.mem_of_getElem? hb0))
      have hne := hp1
      have hall2 := hp2
      have hlu := hp3
      rw [hg0, hg13] at hp4
      refine AWp.skip ?_
      repeat first | refine thenN ?_ | refine thenX ?_ | refine thenR ?_ | refine blockN ?_ | refine blockR ?_ | refine blockX ?_ | refine blockM rfl ?_
      refine AWp.seq ?_
      -- region 3
      refine AWp.rseq E_ok [0, 2, 3, 4, 5, 7, 8, 26, 38, 50] fun K hK => ?_
      simp [hL, hb0, hb1, hc0, hc1, hcd, hbd, hlu]
      try simp (disch := omega) only [wrap_i64]
      repeat refine ⟨by first | omega | assumption | (simp only [maxLen]; omega) | (intros; omega) | decide, ?_⟩
      refine meet.of (barcode_Luhn (s.take 13)) ?_
      simp [hL, hb0, hb1, hc0, hc1, hcd, hbd, hlu]
      try simp (disch := omega) only [wrap_i64]
      repeat refine ⟨by first | omega | assumption | (simp only [maxLen]; omega) | (intros; omega) | decide, ?_⟩
      refine hK _ ?_
      clear hK K
      -- region 4
      refine AWp.rseq E_ok [0, 2, 3, 4, 5, 7, 8, 26, 38, 50] fun K hK => ?_
      simp [hL, hb0, hb1, hc0, hc1, hcd, hbd, hlu]
      try simp (disch := omega) only [wrap_i64]
      repeat refine ⟨by first | omega | assumption | (simp only [maxLen]; omega) | (intros; omega) | decide, ?_⟩
      refine hK _ ?_
      clear hK K
      refine AWp.cond rfl (fun h38 => ?_) (fun h38 => ?_)
      · try simp at h38
        have hb : parB s = (0, 0, 5) := by rw [hp4, if_pos h38]
        -- region 5
        refine AWp.rseq E_ok [0, 2, 3, 4, 5, 7, 8, 26, 38, 50] fun K hK => ?_
        simp [hL, hb0, hb1, hc0, hc1, hcd, hbd, hlu]
        try simp (disch := omega) only [wrap_i64]
        repeat refine ⟨by first | omega | assumption | (simp only [maxLen]; omega) | (intros; omega) | decide, ?_⟩
        refine hK _ ?_
        clear hK K
        refine AWp.ret ?_
        repeat first | refine thenN ?_ | refine thenX ?_ | refine thenR ?_ | refine blockN ?_ | refine blockR ?_ | refine blockX ?_ | refine blockM rfl ?_
        simp [RetOk, RV, RVs, hb]
      · try simp at h38
        rw [if_neg (by simpa using h38)] at hp4
        simp only [List.drop_one] at hp4
        refine AWp.skip ?_
        repeat first | refine thenN ?_ | refine thenX ?_ | refine thenR ?_ | refine blockN ?_ | refine blockR ?_ | refine blockX ?_ | refine blockM rfl ?_
        -- region 6
        refine AWp.rseq E_ok [0, 2, 3, 4, 5, 7, 8, 26, 38, 50] fun K hK => ?_
        simp [hL, hb0, hb1, hc0, hc1, hcd, hbd, hlu]
        try simp (disch := omega) only [wrap_i64]
        repeat refine ⟨by first | omega | assumption | (simp only [maxLen]; omega) | (intros; omega) | decide, ?_⟩
        refine meet.of (strconv_Atoi ((s.take 13).tail) (valF 0 ((s.take 13).drop 1)) (by simp; omega) (by rw [← List.drop_one]; exact atoi_val hne hall2)) ?_
        simp [hL, hb0, hb1, hc0, hc1, hcd, hbd, hlu]
        try simp (disch := omega) only [wrap_i64]
        skip
        repeat refine ⟨by first | omega | assumption | (simp only [maxLen]; omega) | (intros; omega) | decide, ?_⟩
        refine hK _ ?_
        clear hK K
        refine AWp.seq ?_
        -- region 7
        refine AWp.rseq E_ok [0, 2, 3, 4, 5, 7, 8, 26, 38, 50] fun K hK => ?_
        simp [hL, hb0, hb1, hc0, hc1, hcd, hbd, hlu]
        try simp (disch := omega) only [wrap_i64]
        refine ⟨⟨_, Tryz.underlying43⟩, ?_⟩
        repeat refine ⟨by first | omega | assumption | (simp only [maxLen]; omega) | (intros; omega) | decide, ?_⟩
        refine hK _ ?_
        clear hK K
        refine AWp.cond rfl (fun h50 => ?_) (fun h50 => ?_)
        · try simp at h50
          have hb : parB s = (0, 0, 2) := by rw [hp4, if_pos (by omega)]
          -- region 8
          refine AWp.rseq E_ok [0, 2, 3, 4, 5, 7, 8, 26, 38, 50] fun K hK => ?_
          simp [hL, hb0, hb1, hc0, hc1, hcd, hbd, hlu]
          try simp (disch := omega) only [wrap_i64]
          repeat refine ⟨by first | omega | assumption | (simp only [maxLen]; omega) | (intros; omega) | decide, ?_⟩
          refine hK _ ?_
          clear hK K
          refine AWp.ret ?_
          repeat first | refine thenN ?_ | refine thenX ?_ | refine thenR ?_ | refine blockN ?_ | refine blockR ?_ | refine blockX ?_ | refine blockM rfl ?_
          simp [RetOk, RV, RVs, hb]
        · try simp at h50
          have hb : parB s = (dB b0, valF 0 (s.take 13).tail, 0) := by rw [hp4, if_neg (by omega)]
          refine AWp.skip ?_
          repeat first | refine thenN ?_ | refine thenX ?_ | refine thenR ?_ | refine blockN ?_ | refine blockR ?_ | refine blockX ?_ | refine blockM rfl ?_
          -- region 9
          refine AWp.rseq E_ok [0, 2, 3, 4, 5, 7, 8, 26, 38, 50] fun K hK => ?_
          simp [hL, hb0, hb1, hc0, hc1, hcd, hbd, hlu]
          try simp (disch := omega) only [wrap_i64]
          repeat refine ⟨by first | omega | assumption | (simp only [maxLen]; omega) | (intros; omega) | decide, ?_⟩
          refine hK _ ?_
          clear hK K
          refine AWp.ret ?_
          repeat first | refine thenN ?_ | refine thenX ?_ | refine thenR ?_ | refine blockN ?_ | refine blockR ?_ | refine blockX ?_ | refine blockM rfl ?_
          simp [RetOk, RV, RVs, hb]
  · skip
    have hLn : ((s.length : Int) != 14) = true := by simp; omega
    -- region 1
    refine AWp.rseq E_ok [0, 2, 3, 4, 5, 7, 8, 26, 38, 50] fun K hK => ?_
    simp [hLn]
    try simp (disch := omega) only [wrap_i64]
    repeat refine ⟨by first | omega | assumption | (simp only [maxLen]; omega) | (intros; omega) | decide, ?_⟩
    refine meet.of (barcode_digits s) ?_
    simp [hLn]
    try simp (disch := omega) only [wrap_i64]
    repeat refine ⟨by first | omega | assumption | (simp only [maxLen]; omega) | (intros; omega) | decide, ?_⟩
    refine hK _ ?_
    clear hK K
    refine AWp.cond rfl (fun h26 => ?_) (fun h26 => ?_)
    · try simp at h26
      have hb : parB s = (0, 0, 3) := by first | exact par_no hg0 h26 | exact if_pos (.inl hL)
      -- region 2
      refine AWp.rseq E_ok [0, 2, 3, 4, 5, 7, 8, 26, 38, 50] fun K hK => ?_
      simp [hLn]
      try simp (disch := omega) only [wrap_i64]
      repeat refine ⟨by first | omega | assumption | (simp only [maxLen]; omega) | (intros; omega) | decide, ?_⟩
      refine hK _ ?_
      clear hK K
      refine AWp.ret ?_
      repeat first | refine thenN ?_ | refine thenX ?_ | refine thenR ?_ | refine blockN ?_ | refine blockR ?_ | refine blockX ?_ | refine blockM rfl ?_
      simp [RetOk, RV, RVs, hb]
    · exact absurd h26 (by simp)
end Go.Proofs.YtjljjnipjhbeaaaGreatDoor

set_option maxRecDepth 100000
set_option linter.unusedSimpArgs false
set_option linter.unusedVariables false
namespace Go.Proofs.YtjljjnipjhbeaaaGreatDoor
open Go Ab Pl
open Go.RowKit
structure Rnew (b k c : Nat) (v : Value) (w : World) : Prop where
  hb : b < w.heap.size
  hk : k < w.heap.size
  ne : b ≠ k
  h0 : w.cell? ⟨b, 0, none⟩ = some (.int .u32 0)
  h1 : w.cell? ⟨b, 1, none⟩ = some (.int .i32 0)
  h3 : w.cell? ⟨b, 3, none⟩ = some v
  h4 : w.cell? ⟨b, 4, none⟩ = some (.slice (some ⟨k, 0, none⟩) 4 c)
  fr : ∀ j, w.frozen? ⟨b, j, none⟩ = false
  k0 : w.cell? ⟨k, 0, none⟩ = some (.string ⟨#[45]⟩)
  k1 : w.cell? ⟨k, 1, none⟩ = some (.string ⟨#[]⟩)
  k2 : w.cell? ⟨k, 2, none⟩ = some (.string ⟨#[32]⟩)
  k3 : w.cell? ⟨k, 3, none⟩ = some (.string ⟨#[]⟩)
def NewPost (w : World) (e : Ending) (w' : World) : Prop := ∃ b k c v, e = .returned (.pointer (some ⟨b, 0, none⟩)) ∧ Rnew b k c v w' ∧ Below w.heap.size w w' ∧ w.heap.size ≤ b
set_option maxHeartbeats 4000000 in
theorem newRepl_any (a cap : Nat) (w : World) (ha : a < w.heap.size)
    (k0 : w.cell? ⟨a, 0, none⟩ = some (.string ⟨#[45]⟩)) (k1 : w.cell? ⟨a, 1, none⟩ = some (.string ⟨#[]⟩)) (k2 : w.cell? ⟨a, 2, none⟩ = some (.string ⟨#[32]⟩)) (k3 : w.cell? ⟨a, 3, none⟩ = some (.string ⟨#[]⟩)) :
    Calls Tryz.prog 30 #[.slice (some ⟨a, 0, none⟩) 4 cap] w (NewPost w) := by
  go_enter Tryz.func30, Tryz.ntmps30
  have hdc : ¬ (281474976710656 < Builtin.nextslicecap 4 0 * Tryz.t9.bytes) := by decide
  go_wp2
  go_ret
  refine ⟨w.heap.size + 1, w.heap.size, (Question.appendCap 4 0 9).cut (w.tape w.drawn (Question.appendCap 4 0 9)), .nilIface, rfl, ⟨by simp, by simp; omega, by simp, ?_, ?_, ?_, ?_, fun j => by simp, ?_, ?_, ?_, ?_⟩, ?_, by omega⟩
  · simp
  · simp
  · simp
  · simp
  · rw [World.cell?_drew, World.cell?_alloc_past _ _ _ (by simp)]; simp; rw [Array.getElem?_append_left (by simp)]; simp
  · rw [World.cell?_drew, World.cell?_alloc_past _ _ _ (by simp)]; simp; rw [Array.getElem?_append_left (by simp)]; simp
  · rw [World.cell?_drew, World.cell?_alloc_past _ _ _ (by simp)]; simp; rw [Array.getElem?_append_left (by simp)]; simp
  · rw [World.cell?_drew, World.cell?_alloc_past _ _ _ (by simp)]; simp; rw [Array.getElem?_append_left (by simp)]; simp
  · exact (((Below.refl _ _).alloc (Nat.le_refl _) _).alloc (by simp) _).drew

end Go.Proofs.YtjljjnipjhbeaaaGreatDoor

set_option maxRecDepth 100000
set_option linter.unusedSimpArgs false
set_option linter.unusedVariables false
namespace Go.Proofs.YtjljjnipjhbeaaaGreatDoor
open Go Ab Pl
open Go.RowKit
def sMinus : ByteArray := ⟨#[45]⟩
def sSpace : ByteArray := ⟨#[32]⟩
def sNone : ByteArray := ⟨#[]⟩
noncomputable def bsr0 (v : Value) : Array Value := Tryz.zeroCells121.set! 256 v
theorem bsr0_list (v : Value) : Tryz.zeroCells121.toList.set 256 v = (bsr0 v).toList := by simp [bsr0]
theorem zc_rep : Tryz.zeroCells121 = Array.replicate 257 (.slice none 0 0) := by rfl
theorem bsr0_size (v : Value) : (bsr0 v).size = 257 := by simp [bsr0, zc_rep]
theorem bsr0_get (v : Value) (j : Nat) : (bsr0 v)[j]? = if j = 256 then some v else if j < 257 then some (.slice none 0 0) else none := by
  unfold bsr0; rw [zc_rep, Array.set!_eq_setIfInBounds, Array.getElem?_setIfInBounds]
  by_cases h : j = 256
  · subst h; simp
  · rw [if_neg (by omega), if_neg h, Array.getElem?_replicate]
theorem bsr0_one (v : Value) (hv : v.oneCell' = true) : (bsr0 v).all (·.oneCell') = true := by
  rw [Array.all_eq_true]; intro j hj
  have := bsr0_get v j
  rw [Array.getElem?_eq_getElem hj] at this
  have hj' := hj; rw [bsr0_size] at hj'
  by_cases h : j = 256
  · rw [if_pos h] at this; rw [Option.some.inj this]; exact hv
  · rw [if_neg h, if_pos hj'] at this; rw [Option.some.inj this]; rfl
theorem made2 : madeCells #[Value.string { data := #[] }] (2 * Tryz.t9.size) = #[.string ⟨#[]⟩, .string ⟨#[]⟩] := by
  rw [show 2 * Tryz.t9.size = 2 from rfl]
  apply Array.ext
  · simp [size_madeCells]
  · intro j h1 h2
    simp [size_madeCells] at h1
    have : j = 0 ∨ j = 1 := by omega
    rcases this with rfl | rfl <;> simp [madeCells]
theorem eql_nil (a : Option Addr) (l c : Nat) (w : World) : (binOp .eql 36 (.slice a l c) (.slice none 0 0)).run Tryz.prog w = .ok (.bool a.isNone) w := by
  have := run_equal_slice_nil (P := Tryz.prog) w 36 5 a l c Tryz.underlying36
  simp only [binOp]
  simp [this]
theorem conv_one (W : World) (m : Nat) (x : UInt8) (v : Int) (hm : W.heap.size = m) (hv : v = (x.toNat : Int)) :
    (convert 36 9 (.slice (some ⟨m, 0, none⟩) 1 1)).run Tryz.prog (W.alloc (.cells #[.int .u8 v] 5)) = .ok (.string ⟨#[x]⟩) (W.alloc (.cells #[.int .u8 v] 5)) := by
  subst hm hv
  exact run_convert_bytes_back (P := Tryz.prog) (W.alloc (.cells #[.int .u8 (x.toNat : Int)] 5)) 36 9 5 ⟨W.heap.size, 0, none⟩ 1 [x] Tryz.underlying36 Tryz.underlying5 Tryz.underlying9 (by
    intro j hj; simp at hj; subst hj
    show (W.alloc (.cells #[Value.int .u8 (x.toNat : Int)] 5)).cell? ((⟨W.heap.size, 0, none⟩ : Addr).add 0) = _
    rw [Addr.add_lit]; simp)
structure Bst (w V : World) (n m r : Nat) (f g : Nat → Value) : Prop where
  size : V.heap.size = m
  le : n + 2 ≤ m
  below : Below n w V
  tab : ∀ j, j < 256 → V.cell? ⟨n + 1, j, none⟩ = some (f j)
  rep : V.cell? ⟨n + 1, 256, none⟩ = some (.slice (some ⟨n, 0, none⟩) r 2)
  row : ∀ j, j < 2 → V.cell? ⟨n, j, none⟩ = some (g j)
  frt : ∀ j, V.frozen? ⟨n + 1, j, none⟩ = false
  frr : ∀ j, V.frozen? ⟨n, j, none⟩ = false
theorem Bst.step {w V : World} {n m r : Nat} {f g : Nat → Value} (h : Bst w V n m r f g) (x q r' : Nat) (hx : x < 256) (hq : q < 2) (s v : Value) (A B C : Obj) (f' g' : Nat → Value)
    (hf : ∀ j, f' j = if j = x then v else f j) (hg : ∀ j, g' j = if j = q then s else g j) :
    Bst w ((((((V.setCell ⟨n, q, none⟩ s).setCell ⟨n + 1, 256, none⟩ (.slice (some ⟨n, 0, none⟩) r' 2)).setCell ⟨n + 1, x, none⟩ v).alloc A).alloc B).alloc C).drew n (m + 3) r' f' g' := by
  have hm := h.le
  have hs := h.size
  refine ⟨by simp [hs], by omega, ?_, ?_, ?_, ?_, ?_, ?_⟩
  · exact ((((((h.below.setCell (by simp) _).setCell (by simp) _).setCell (by simp) _).alloc (by simp; omega) _).alloc (by simp; omega) _).alloc (by simp; omega) _).drew
  · intro j hj
    rw [World.cell?_drew, World.cell?_alloc_past _ _ _ (by simp; omega), World.cell?_alloc_past _ _ _ (by simp; omega), World.cell?_alloc_past _ _ _ (by simp; omega), hf]
    by_cases hjx : j = x
    · subst hjx
      rw [if_pos rfl]
      refine World.cell?_setCell_same (u := f j) _ _ _ ?_
      · rw [World.cell?_setCell_other _ _ _ _ (by first | (simp; done) | (simp; omega)), World.cell?_setCell_other _ _ _ _ (by simp)]
        exact h.tab j hj
    · rw [if_neg hjx, World.cell?_setCell_other _ _ _ _ (by first | (simp; done) | (simp; omega)), World.cell?_setCell_other _ _ _ _ (by first | (simp; done) | (simp; omega)), World.cell?_setCell_other _ _ _ _ (by simp)]
      exact h.tab j hj
  · rw [World.cell?_drew, World.cell?_alloc_past _ _ _ (by simp; omega), World.cell?_alloc_past _ _ _ (by simp; omega), World.cell?_alloc_past _ _ _ (by simp; omega)]
    rw [World.cell?_setCell_other _ _ _ _ (by first | (simp; done) | (simp; omega))]
    refine World.cell?_setCell_same (u := .slice (some ⟨n, 0, none⟩) r 2) _ _ _ ?_
    · rw [World.cell?_setCell_other _ _ _ _ (by simp)]
      exact h.rep
  · intro j hj
    rw [World.cell?_drew, World.cell?_alloc_past _ _ _ (by simp; omega), World.cell?_alloc_past _ _ _ (by simp; omega), World.cell?_alloc_past _ _ _ (by simp; omega), World.cell?_setCell_other _ _ _ _ (by simp), World.cell?_setCell_other _ _ _ _ (by simp), hg]
    by_cases hjx : j = q
    · subst hjx
      rw [if_pos rfl]
      exact World.cell?_setCell_same _ _ _ (h.row j hj)
    · rw [if_neg hjx, World.cell?_setCell_other _ _ _ _ (by first | (simp; done) | (simp; omega))]
      exact h.row j hj
  · intro j
    rw [World.frozen?_drew, World.frozen?_alloc_past _ _ _ (by simp; omega), World.frozen?_alloc_past _ _ _ (by simp; omega), World.frozen?_alloc_past _ _ _ (by simp; omega)]
    simpa using h.frt j
  · intro j
    rw [World.frozen?_drew, World.frozen?_alloc_past _ _ _ (by simp; omega), World.frozen?_alloc_past _ _ _ (by simp; omega), World.frozen?_alloc_past _ _ _ (by simp; omega)]
    simpa using h.frr j
theorem rounds_gen {P : Program} {c : Code} {Q : Exit → Act → World → Prop} {n : Nat} {a : Act} {W : World} (F : World → Prop) (hF : F W) (h : ∀ V, F V → Code.rounds P c Q n a V) : Code.rounds P c Q n a W := h W hF
def tabv (n c1 c2 j : Nat) : Value := if j = 45 then .slice (some ⟨n + 7, 0, none⟩) 0 c2 else if j = 32 then .slice (some ⟨n + 4, 0, none⟩) 0 c1 else .slice none 0 0
def repv (j : Nat) : Value := if j = 1 then .string ⟨#[45]⟩ else if j = 0 then .string ⟨#[32]⟩ else .string ⟨#[]⟩
def Built (w : World) (e : Ending) (w' : World) : Prop := ∃ c1 c2, e = .returned (.iface 122 (.pointer (some ⟨w.heap.size + 1, 0, none⟩))) ∧ Bst w w' w.heap.size (w.heap.size + 8) 2 (tabv w.heap.size c1 c2) repv
set_option maxHeartbeats 4000000 in
theorem build_any (b k c : Nat) (w : World) (h4 : w.cell? ⟨b, 4, none⟩ = some (.slice (some ⟨k, 0, none⟩) 4 c)) (hb : b < w.heap.size) (hk : k < w.heap.size)
    (k0 : w.cell? ⟨k, 0, none⟩ = some (.string ⟨#[45]⟩)) (k1 : w.cell? ⟨k, 1, none⟩ = some (.string ⟨#[]⟩)) (k2 : w.cell? ⟨k, 2, none⟩ = some (.string ⟨#[32]⟩)) (k3 : w.cell? ⟨k, 3, none⟩ = some (.string ⟨#[]⟩)) :
    Calls Tryz.prog 62 #[.pointer (some ⟨b, 0, none⟩)] w (Built w) := by
  go_enter Tryz.func62, Tryz.ntmps62
  go_wp2
  have hmk := run_make (P := Tryz.prog) w 62 9 Tryz.t9 (.string ⟨#[]⟩) Tryz.underlying62 (by kernel_rfl) (by kernel_rfl) .i64 .i64 0 2 (by decide) (by decide) (by decide) (by decide)
  have hst : ∀ v, v.oneCell' = true → (storeCells ⟨w.heap.size + 1, 0, none⟩ (Tryz.zeroCells121.toList.set 256 v)).run Tryz.prog ((w.alloc (.cells (madeCells #[Value.string { data := #[] }] (2 * Tryz.t9.size)) 9)).alloc (.cells Tryz.zeroCells121 121)) = .ok () ((w.alloc (.cells (madeCells #[Value.string { data := #[] }] (2 * Tryz.t9.size)) 9)).alloc (.cells (bsr0 v) 121)) := by
    intro v hv
    have := run_storeCells_new (P := Tryz.prog) (w.alloc (.cells (madeCells #[Value.string { data := #[] }] (2 * Tryz.t9.size)) 9)) 121 Tryz.zeroCells121 (bsr0 v) (by rw [bsr0_size]; rfl) (by rw [bsr0_size]; rfl) (bsr0_one v hv)
    rw [bsr0_list]; simpa using this
  replace hst := hst (.slice (some ⟨w.heap.size, 0, none⟩) 0 2) rfl
  go_rounds 3
  go_wp2
  obtain ⟨W, hW⟩ : ∃ W, W = ((w.alloc (.cells (madeCells #[Value.string { data := #[] }] (2 * Tryz.t9.size)) 9)).alloc (.cells (bsr0 (.slice (some ⟨w.heap.size, 0, none⟩) 0 2)) 121)) := ⟨_, rfl⟩
  rw [← hW]
  have hB : Bst w W w.heap.size (w.heap.size + 2) 0 (fun _ => .slice none 0 0) (fun _ => .string ⟨#[]⟩) := by
    subst hW
    refine ⟨by simp, by omega, ((Below.refl _ _).alloc (Nat.le_refl _) _).alloc (by simp) _, ?_, by simp [bsr0_get], ?_, fun j => by simp, fun j => by simp⟩
    · intro j hj; simp [bsr0_get, show ¬ j = 256 by omega, show j < 257 by omega]
    · intro j hj; rw [World.cell?_alloc_past _ _ _ (by simp), made2]
      have : j = 0 ∨ j = 1 := by omega
      rcases this with rfl | rfl <;> simp
  clear hst hmk hW
  have e32 : ∀ h : 0 < (⟨#[32]⟩ : ByteArray).size, ((⟨#[32]⟩ : ByteArray)[0]'h).toNat = 32 := fun _ => rfl
  have e45 : ∀ h : 0 < (⟨#[45]⟩ : ByteArray).size, ((⟨#[45]⟩ : ByteArray)[0]'h).toNat = 45 := fun _ => rfl
  have hnil := eql_nil
  have hcv0 : ∀ V : World, (convert 9 36 (.string ⟨#[]⟩)).run Tryz.prog V = .ok (.slice (some ⟨V.heap.size, 0, none⟩) 0 (grownCap V 0 0 5)) (V.drew.alloc (.cells (bytesRow ⟨#[]⟩ (grownCap V 0 0 5)) 5 ((bytesRow ⟨#[]⟩ (grownCap V 0 0 5)).size, (bytesRow ⟨#[]⟩ (grownCap V 0 0 5)).size + 1))) :=
    fun V => run_bytes_of_string (P := Tryz.prog) V 9 36 5 ⟨#[]⟩ Tryz.underlying9 Tryz.underlying36 Tryz.underlying5
  have kk : ∀ V, Below w.heap.size w V → V.cell? ⟨k, 0, none⟩ = some (.string ⟨#[45]⟩) ∧ V.cell? ⟨k, 1, none⟩ = some (.string ⟨#[]⟩) ∧ V.cell? ⟨k, 2, none⟩ = some (.string ⟨#[32]⟩) ∧ V.cell? ⟨k, 3, none⟩ = some (.string ⟨#[]⟩) :=
    fun V hV => ⟨(hV.cell (p := ⟨k, 0, none⟩) hk).trans k0, (hV.cell (p := ⟨k, 1, none⟩) hk).trans k1, (hV.cell (p := ⟨k, 2, none⟩) hk).trans k2, (hV.cell (p := ⟨k, 3, none⟩) hk).trans k3⟩
  clear k0 k1 k2 k3
  refine wp_loop_rounds 3 ?_
  rw [rounds_succ]
  have KK := Lib.hid kk
  clear kk
  have HB := Lib.hid hB
  obtain ⟨k0, k1, k2, k3⟩ := KK.out W hB.below
  have hn := hB.size
  have hcv1 := conv_one W (w.heap.size + 2) 32 32 hn rfl
  have a0 := hB.tab 32 (by omega)
  have a2 := hB.rep
  have b0 := hB.row 0 (by omega)
  have f0 := hB.frt 32
  have f2 := hB.frt 256
  have f3 := hB.frr 0
  clear hB
  go_wp2
  refine rounds_gen (fun V => ∃ c1, Bst w V w.heap.size (w.heap.size + 5) 1 (fun j => if j = 32 then .slice (some ⟨w.heap.size + 4, 0, none⟩) 0 c1 else .slice none 0 0) (fun j => if j = 0 then .string ⟨#[32]⟩ else .string ⟨#[]⟩)) ?_ ?_
  · exact ⟨_, Bst.step HB.out 32 0 1 (by omega) (by omega) _ _ _ _ _ _ _ (fun _ => rfl) (fun _ => rfl)⟩
  clear HB hn hcv1 a0 a2 b0 f0 f2 f3 k0 k1 k2 k3
  rintro V ⟨c1, hB⟩
  rw [rounds_succ]
  have HB := Lib.hid hB
  obtain ⟨k0, k1, k2, k3⟩ := KK.out V hB.below
  have hn := hB.size
  have hcv1 := conv_one V (w.heap.size + 5) 45 45 hn rfl
  have a0 := hB.tab 45 (by omega)
  have a2 := hB.rep
  have b0 := hB.row 1 (by omega)
  have f0 := hB.frt 45
  have f2 := hB.frt 256
  have f3 := hB.frr 1
  simp at a0 b0
  clear hB
  go_wp2
  refine rounds_gen (fun V => ∃ c1 c2, Bst w V w.heap.size (w.heap.size + 8) 2 (fun j => if j = 45 then .slice (some ⟨w.heap.size + 7, 0, none⟩) 0 c2 else if j = 32 then .slice (some ⟨w.heap.size + 4, 0, none⟩) 0 c1 else .slice none 0 0) (fun j => if j = 1 then .string ⟨#[45]⟩ else if j = 0 then .string ⟨#[32]⟩ else .string ⟨#[]⟩)) ?_ ?_
  · exact ⟨_, _, Bst.step HB.out 45 1 2 (by omega) (by omega) _ _ _ _ _ _ _ (fun _ => rfl) (fun _ => rfl)⟩
  clear HB hn hcv1 a0 a2 b0 f0 f2 f3 k0 k1 k2 k3
  rintro V ⟨c1, c2, hB⟩
  rw [rounds_succ]
  have HB := Lib.hid hB
  clear hB
  go_wp2
  go_ret
  exact ⟨c1, c2, rfl, HB.out⟩

end Go.Proofs.YtjljjnipjhbeaaaGreatDoor

set_option maxRecDepth 100000
set_option linter.unusedSimpArgs false
set_option linter.unusedVariables false
namespace Go.Proofs.YtjljjnipjhbeaaaGreatDoor
open Go Ab Pl
open Go.RowKit
theorem once_disable (w : World) : (callFunc 93 #[]).run Tryz.prog w = .ok (.value (.tuple #[])) w := run_call_mark0 Tryz.func93 (by kernel_rfl) (by kernel_rfl) (by kernel_rfl) .disable (by kernel_rfl) w
theorem once_enable (w : World) : (callFunc 95 #[]).run Tryz.prog w = .ok (.value (.tuple #[])) w := run_call_mark0 Tryz.func95 (by kernel_rfl) (by kernel_rfl) (by kernel_rfl) .enable (by kernel_rfl) w
theorem once_acquire (a : Addr) (w : World) : (callFunc 96 #[.pointer (some a)]).run Tryz.prog w = .ok (.value (.tuple #[])) w := run_call_marked Tryz.func96 (by kernel_rfl) (by kernel_rfl) (by kernel_rfl) .acquire (by kernel_rfl) a w
theorem once_release (a : Addr) (w : World) : (callFunc 98 #[.pointer (some a)]).run Tryz.prog w = .ok (.value (.tuple #[])) w := run_call_marked Tryz.func98 (by kernel_rfl) (by kernel_rfl) (by kernel_rfl) .releaseMerge (by kernel_rfl) a w
theorem store_deferred (a : Addr) (x : Value) (u : FrameMode) (w : World) (hc : w.cell? a = some x) (hz : w.frozen? a = false) :
    CallsD Tryz.prog 75 #[.pointer (some a), .bool true] u w fun e u' w' => u' = u ∧ (e = .returned (.tuple #[]) ∧ w' = w.drew.setCell a (.int .u32 1)) := by
  have hc' : w.drew.cell? a = some x := by go_simp
  have hz' : w.drew.frozen? a = false := by go_simp
  have hst := run_call_store (P := Tryz.prog) Tryz.func87 (by kernel_rfl) (by kernel_rfl) (by kernel_rfl) (by kernel_rfl) (k := .u32) (y := 1) hc' hz'
  go_enter_d Tryz.func75, Tryz.ntmps75
  go_wp2
  go_region_calls
  all_goals (go_end0; exact ⟨rfl, rfl⟩)

end Go.Proofs.YtjljjnipjhbeaaaGreatDoor

set_option maxRecDepth 100000
set_option linter.unusedSimpArgs false
set_option linter.unusedVariables false
namespace Go.Proofs.YtjljjnipjhbeaaaGreatDoor
open Go Ab Pl
open Go.RowKit
theorem unlock_in (a : Addr) (w : World) (hc : w.cell? a = some (.int .i32 1)) (hz : w.frozen? a = false) :
    Calls Tryz.prog 86 #[.pointer (some a)] w fun e w' => e = .returned (.tuple #[]) ∧ w' = w.setCell a (.int .i32 0) := by
  have hd := once_disable
  have he := once_enable
  have hr := once_release
  have hadd := run_call_add (P := Tryz.prog) Tryz.func99 (by kernel_rfl) (by kernel_rfl) (by kernel_rfl) .i32 (by kernel_rfl) (y := -1) (s := 0) hc hz (by simp [go_sem]; rfl)
  have hcv := run_convert_to_unsafe (P := Tryz.prog) (src := 148) (dst := 100) Tryz.underlying148 Tryz.underlying100 (by kernel_rfl) hc
  go_enter Tryz.func86, Tryz.ntmps86
  go_wp2
  go_end0
  go_wp2
  all_goals (try go_end0)
  all_goals (try exact ⟨rfl, rfl⟩)
theorem lock_in (a : Addr) (w : World) (hc : w.cell? a = some (.int .i32 0)) (hz : w.frozen? a = false) :
    Calls Tryz.prog 85 #[.pointer (some a)] w fun e w' => e = .returned (.tuple #[]) ∧ w' = w.setCell a (.int .i32 1) := by
  have hd := once_disable
  have he := once_enable
  have ha := once_acquire
  have hcas := run_call_cas_hit (P := Tryz.prog) Tryz.func94 (by kernel_rfl) (by kernel_rfl) (by kernel_rfl) .i32 (by kernel_rfl) (y := 1) hc hz
  have hc' : (w.setCell a (.int .i32 1)).cell? a = some (.int .i32 1) := World.cell?_setCell_same w a _ hc
  have hcv := run_convert_to_unsafe (P := Tryz.prog) (src := 148) (dst := 100) Tryz.underlying148 Tryz.underlying100 (by kernel_rfl) hc'
  go_enter Tryz.func85, Tryz.ntmps85
  go_wp2
  first | go_end0 | (simp only [Exit.inBlock, Exit.then]; refine bodyPost_ret (results_none rfl _ _ _) rfl ?_) | refine bodyPost_ret (results_none rfl _ _ _) rfl ?_
  go_wp2
  all_goals (try go_end0)
  all_goals (try exact ⟨rfl, rfl⟩)
theorem lock_free (a : Addr) (w : World) (hc : w.cell? a = some (.int .i32 0)) (hz : w.frozen? a = false) :
    Calls Tryz.prog 73 #[.pointer (some a)] w fun e w' => e = .returned (.tuple #[]) ∧ w' = w.setCell a (.int .i32 1) := by
  go_enter Tryz.func73, Tryz.ntmps73
  go_wp2_with (go_at_call 85; refine (lock_in a _ hc hz).mono ?_; rintro e w' ⟨rfl, rfl⟩)
  go_end0
  exact ⟨rfl, rfl⟩
theorem unlock_deferred (a : Addr) (u : FrameMode) (w : World) (hc : w.cell? a = some (.int .i32 1)) (hz : w.frozen? a = false) :
    CallsD Tryz.prog 74 #[.pointer (some a)] u w fun e u' w' => u' = u ∧ (e = .returned (.tuple #[]) ∧ w' = w.setCell a (.int .i32 0)) := by
  go_enter_d Tryz.func74, Tryz.ntmps74
  go_wp2_with (go_at_call 86; refine (unlock_in a _ hc hz).mono ?_; rintro e w' ⟨rfl, rfl⟩)
  go_end0
  exact ⟨rfl, rfl⟩

end Go.Proofs.YtjljjnipjhbeaaaGreatDoor

set_option maxRecDepth 100000
set_option linter.unusedSimpArgs false
set_option linter.unusedVariables false
namespace Go.Proofs.YtjljjnipjhbeaaaGreatDoor
open Go Ab Pl
open Go.RowKit
def Slow (b off : Nat) (Q : World → Prop) (e : Ending) (w' : World) : Prop := e = .returned (.tuple #[]) ∧ ∃ w1, Q w1 ∧ w' = (w1.drew.setCell ⟨b, off, none⟩ (.int .u32 1)).setCell ⟨b, off + 1, none⟩ (.int .i32 0)
def Body (b off : Nat) (Q : World → Prop) (e : Ending) (w' : World) : Prop := e = .returned (.tuple #[]) ∧ w'.cell? ⟨b, off, none⟩ = some (.int .u32 0) ∧ w'.cell? ⟨b, off + 1, none⟩ = some (.int .i32 1) ∧ w'.frozen? ⟨b, off, none⟩ = false ∧ w'.frozen? ⟨b, off + 1, none⟩ = false ∧ Q w'
theorem bool_load (a : Addr) (x : Int) (w : World) (h : w.cell? a = some (.int .u32 x)) : Calls Tryz.prog 60 #[.pointer (some a)] w fun e w' => e = .returned (.bool (x != 0)) ∧ w' = w := by
  have hl := run_call_load (P := Tryz.prog) Tryz.func72 (by kernel_rfl) (by kernel_rfl) (by kernel_rfl) .u32 (by kernel_rfl) h
  go_enter Tryz.func60, Tryz.ntmps60
  go_wp2
  go_ret
  exact ⟨rfl, rfl⟩
set_option maxHeartbeats 1600000 in
theorem once_slow (b off : Nat) (p : Addr) (Q : World → Prop) (w : World)
    (h0 : w.cell? ⟨b, off, none⟩ = some (.int .u32 0)) (h1 : w.cell? ⟨b, off + 1, none⟩ = some (.int .i32 0))
    (f0 : w.frozen? ⟨b, off, none⟩ = false) (f1 : w.frozen? ⟨b, off + 1, none⟩ = false)
    (hb : Calls Tryz.prog 48 #[.pointer (some p)] (w.setCell ⟨b, off + 1, none⟩ (.int .i32 1)) (Body b off Q)) :
    Calls Tryz.prog 61 #[.pointer (some ⟨b, off, none⟩), .func (.func 48) #[.pointer (some p)] #[]] w (Slow b off Q) := by
  have hl := (World.cell?_setCell_other w ⟨b, off + 1, none⟩ ⟨b, off, none⟩ (.int .i32 1) (by simp)).trans h0
  have hnot : ∀ (x : Bool) (w : World), (Op.unary .not (.bool x)).run Tryz.prog w = .ok (.bool (!x)) w := fun _ _ => rfl
  go_enter_defers Tryz.func61, Tryz.ntmps61
  go_wp2_with (first | (go_at_call 73; refine (lock_free ⟨b, off + 1, none⟩ _ (by go_simp) (by go_simp)).mono ?_; rintro e w' ⟨rfl, rfl⟩) | (go_at_call 60; refine (bool_load _ 0 _ hl).mono ?_; rintro e w' ⟨rfl, rfl⟩) | (go_at_call 48; refine hb.mono ?_; rintro e w' ⟨rfl, c0, c1, g0, g1, hq⟩))
  refine leaves_cons (f := 75) (args := #[.pointer (some ⟨b, off, none⟩), .bool true]) (by simp) (by simp [go_sem]) ?_
  refine (store_deferred ⟨b, off, none⟩ (.int .u32 0) .returning _ c0 g0).mono ?_
  rintro e u' w'' ⟨rfl, rfl, rfl⟩
  refine leaves_cons (f := 74) (args := #[.pointer (some ⟨b, off + 1, none⟩)]) (by simp [settle]) (by simp [go_sem]) ?_
  refine (unlock_deferred ⟨b, off + 1, none⟩ _ _ ?_ (by simp [g1])).mono ?_
  · refine (World.cell?_setCell_other _ ⟨b, off, none⟩ ⟨b, off + 1, none⟩ _ (by simp)).trans ?_
    rw [World.cell?_drew]
    exact c1
  rintro e u' w'' ⟨rfl, rfl, rfl⟩
  simp [Leaves, settle, results, Tryz.results61]
  exact ⟨rfl, _, hq, rfl⟩
set_option maxHeartbeats 1600000 in
theorem once_do (b off : Nat) (p : Addr) (Q : World → Prop) (w : World)
    (h0 : w.cell? ⟨b, off, none⟩ = some (.int .u32 0)) (h1 : w.cell? ⟨b, off + 1, none⟩ = some (.int .i32 0))
    (f0 : w.frozen? ⟨b, off, none⟩ = false) (f1 : w.frozen? ⟨b, off + 1, none⟩ = false)
    (hb : Calls Tryz.prog 48 #[.pointer (some p)] (w.setCell ⟨b, off + 1, none⟩ (.int .i32 1)) (Body b off Q)) :
    Calls Tryz.prog 47 #[.pointer (some ⟨b, off, none⟩), .func (.func 48) #[.pointer (some p)] #[]] w (Slow b off Q) := by
  have hnot : ∀ (x : Bool) (w : World), (Op.unary .not (.bool x)).run Tryz.prog w = .ok (.bool (!x)) w := fun _ _ => rfl
  go_enter Tryz.func47, Tryz.ntmps47
  go_wp2_with (first | (go_at_call 60; refine (bool_load _ 0 _ h0).mono ?_; rintro e w' ⟨rfl, rfl⟩) | (go_at_call 61; refine (once_slow b off p Q _ h0 h1 f0 f1 hb).mono ?_; rintro e w' ⟨rfl, hq⟩))
  go_end0
  exact ⟨rfl, hq⟩

end Go.Proofs.YtjljjnipjhbeaaaGreatDoor

set_option maxRecDepth 100000
set_option linter.unusedSimpArgs false
set_option linter.unusedVariables false
namespace Go.Proofs.YtjljjnipjhbeaaaGreatDoor
open Go Ab Pl
open Go.RowKit
structure Rpl (b n c1 c2 : Nat) (w V : World) : Prop where
  ifc : V.cell? ⟨b, 3, none⟩ = some (.iface 122 (.pointer (some ⟨n + 1, 0, none⟩)))
  tab : ∀ j, j < 256 → V.cell? ⟨n + 1, j, none⟩ = some (tabv n c1 c2 j)
  rep : V.cell? ⟨n + 1, 256, none⟩ = some (.slice (some ⟨n, 0, none⟩) 2 2)
  row : ∀ j, j < 2 → V.cell? ⟨n, j, none⟩ = some (repv j)
  below : Below b w V
  lt : b < n
  size : n + 8 ≤ V.heap.size
theorem Rpl.set {b n c1 c2 : Nat} {w V : World} (h : Rpl b n c1 c2 w V) (j : Nat) (hj : j ≠ 3) (v : Value) : Rpl b n c1 c2 w (V.setCell ⟨b, j, none⟩ v) := by
  have hl := h.lt
  refine ⟨?_, ?_, ?_, ?_, h.below.setCell (Nat.le_refl _) _, hl, by simpa using h.size⟩
  · rw [World.cell?_setCell_other _ _ _ _ (by first | (simp; done) | (simp; omega))]; exact h.ifc
  · intro i hi; rw [World.cell?_setCell_other _ _ _ _ (by first | (simp; done) | (simp; omega))]; exact h.tab i hi
  · rw [World.cell?_setCell_other _ _ _ _ (by first | (simp; done) | (simp; omega))]; exact h.rep
  · intro i hi; rw [World.cell?_setCell_other _ _ _ _ (by first | (simp; done) | (simp; omega))]; exact h.row i hi
theorem Rpl.drew {b n c1 c2 : Nat} {w V : World} (h : Rpl b n c1 c2 w V) : Rpl b n c1 c2 w V.drew :=
  ⟨by rw [World.cell?_drew]; exact h.ifc, fun i hi => by rw [World.cell?_drew]; exact h.tab i hi, by rw [World.cell?_drew]; exact h.rep, fun i hi => by rw [World.cell?_drew]; exact h.row i hi, h.below.drew, h.lt, by simpa using h.size⟩
def RplQ (b : Nat) (w : World) (V : World) : Prop := ∃ n c1 c2, Rpl b n c1 c2 w V
theorem Bst.toRpl {w V : World} {n m c1 c2 b : Nat} (h : Bst w V n m 2 (tabv n c1 c2) repv) (hb : b < n) (hm : n + 8 ≤ m) (hn : n = w.heap.size) (v u : Value) (h3 : V.cell? ⟨b, 3, none⟩ = some v) :
    Rpl b n c1 c2 w ((V.setCell ⟨b, 3, none⟩ (.iface 122 (.pointer (some ⟨n + 1, 0, none⟩)))).setCell ⟨b, 4, none⟩ u) := by
  have hs := h.size
  refine ⟨?_, ?_, ?_, ?_, ((h.below.mono (Nat.le_of_lt hb)).setCell (Nat.le_refl _) _).setCell (Nat.le_refl _) _, hb, by simp [hs]; omega⟩
  · rw [World.cell?_setCell_other _ _ _ _ (by simp)]; exact World.cell?_setCell_same _ _ _ h3
  · intro i hi; rw [World.cell?_setCell_other _ _ _ _ (by first | (simp; done) | (simp; omega)), World.cell?_setCell_other _ _ _ _ (by first | (simp; done) | (simp; omega))]; exact h.tab i hi
  · rw [World.cell?_setCell_other _ _ _ _ (by first | (simp; done) | (simp; omega)), World.cell?_setCell_other _ _ _ _ (by first | (simp; done) | (simp; omega))]; exact h.rep
  · intro i hi; rw [World.cell?_setCell_other _ _ _ _ (by first | (simp; done) | (simp; omega)), World.cell?_setCell_other _ _ _ _ (by first | (simp; done) | (simp; omega))]; exact h.row i hi
set_option maxHeartbeats 4000000 in
theorem buildOnce_any (b k c : Nat) (v : Value) (w : World) (hb : b < w.heap.size) (hk : k < w.heap.size)
    (h0 : w.cell? ⟨b, 0, none⟩ = some (.int .u32 0)) (h1 : w.cell? ⟨b, 1, none⟩ = some (.int .i32 1)) (h3 : w.cell? ⟨b, 3, none⟩ = some v) (h4 : w.cell? ⟨b, 4, none⟩ = some (.slice (some ⟨k, 0, none⟩) 4 c))
    (fr : ∀ j, w.frozen? ⟨b, j, none⟩ = false)
    (k0 : w.cell? ⟨k, 0, none⟩ = some (.string ⟨#[45]⟩)) (k1 : w.cell? ⟨k, 1, none⟩ = some (.string ⟨#[]⟩)) (k2 : w.cell? ⟨k, 2, none⟩ = some (.string ⟨#[32]⟩)) (k3 : w.cell? ⟨k, 3, none⟩ = some (.string ⟨#[]⟩)) :
    Calls Tryz.prog 48 #[.pointer (some ⟨b, 0, none⟩)] w (Body b 0 (RplQ b w)) := by
  have hcall := build_any b k c w h4 hb hk k0 k1 k2 k3
  have KK := Lib.hid (And.intro h0 (And.intro h1 (And.intro h3 (And.intro h4 fr))))
  clear h0 h1 h3 h4 fr k0 k1 k2 k3
  go_enter Tryz.func48, Tryz.ntmps48
  go_wp2_with (go_at_call 62; refine hcall.mono ?_; rintro e V ⟨c1, c2, rfl, hB⟩; have HB := Lib.hid hB; have h3 := (hB.below.cell (p := ⟨b, 3, none⟩) hb).trans KK.out.2.2.1; have h4 := (hB.below.cell (p := ⟨b, 4, none⟩) hb).trans KK.out.2.2.2.1; have f3 := (hB.below.frozen (p := ⟨b, 3, none⟩) hb).trans (KK.out.2.2.2.2 3); have f4 := (hB.below.frozen (p := ⟨b, 4, none⟩) hb).trans (KK.out.2.2.2.2 4); clear hB)
  go_end0
  have hB := HB.out
  have hl : ∀ j, j < 3 → ((V.setCell ⟨b, 3, none⟩ (.iface 122 (.pointer (some ⟨w.heap.size + 1, 0, none⟩)))).setCell ⟨b, 4, none⟩ (.slice none 0 0)).cell? ⟨b, j, none⟩ = w.cell? ⟨b, j, none⟩ := by
    intro j hj
    rw [World.cell?_setCell_other _ _ _ _ (by first | (simp; done) | (simp; omega)), World.cell?_setCell_other _ _ _ _ (by first | (simp; done) | (simp; omega))]
    exact hB.below.cell (p := ⟨b, j, none⟩) hb
  have hz : ∀ j, ((V.setCell ⟨b, 3, none⟩ (.iface 122 (.pointer (some ⟨w.heap.size + 1, 0, none⟩)))).setCell ⟨b, 4, none⟩ (.slice none 0 0)).frozen? ⟨b, j, none⟩ = false := by
    intro j; simp; exact (hB.below.frozen (p := ⟨b, j, none⟩) hb).trans (KK.out.2.2.2.2 j)
  exact ⟨rfl, (hl 0 (by omega)).trans KK.out.1, (hl 1 (by omega)).trans KK.out.2.1, hz _, hz _, _, c1, c2, hB.toRpl hb (by omega) rfl v _ h3⟩

end Go.Proofs.YtjljjnipjhbeaaaGreatDoor

set_option maxRecDepth 100000
set_option linter.unusedSimpArgs false
set_option linter.unusedVariables false
namespace Go.Proofs.YtjljjnipjhbeaaaGreatDoor
open Go Ab Pl
open Go.RowKit
structure Rtab (n c1 c2 : Nat) (V : World) : Prop where
  tab : ∀ j, j < 256 → V.cell? ⟨n + 1, j, none⟩ = some (tabv n c1 c2 j)
  rep : V.cell? ⟨n + 1, 256, none⟩ = some (.slice (some ⟨n, 0, none⟩) 2 2)
  row : ∀ j, j < 2 → V.cell? ⟨n, j, none⟩ = some (repv j)
  size : n + 2 ≤ V.heap.size
theorem below_dn {B : Nat} {a w : World} (h : Below B a w) (n : Nat) : Below B a (w.drewN n) := h.trans ⟨rfl, rfl, rfl, Nat.le_refl _, fun _ _ => rfl⟩
theorem take_snc (s : ByteArray) (k : Nat) (h : k < s.size) : s.data.toList.take (k + 1) = s.data.toList.take k ++ [s[k]] := by
  rw [List.take_succ_eq_append_getElem (by simpa using h)]; rfl
def kpN (s : ByteArray) (k : Nat) : Nat := (rmvR (s.data.toList.take k)).length
theorem kpN_le (s : ByteArray) (k : Nat) : kpN s k ≤ k := Nat.le_trans (rmvR_len _) (List.length_take_le _ _)
theorem byte_eq (b c : UInt8) : b = c ↔ b.toNat = c.toNat := UInt8.toNat_inj.symm
theorem kpN_snc (s : ByteArray) (k : Nat) (h : k < s.size) : kpN s (k + 1) = if s[k].toNat = 45 ∨ s[k].toNat = 32 then kpN s k else kpN s k + 1 := by
  unfold kpN; rw [take_snc s k h, rmv_snoc]
  by_cases hc : s[k] = 45 ∨ s[k] = 32
  · rw [if_pos hc, if_pos (by rcases hc with e | e <;> rw [e]; exact Or.inl rfl; exact Or.inr rfl)]
  · rw [if_neg hc, if_neg (by intro h'; exact hc (h'.elim (fun e => Or.inl ((byte_eq _ _).2 e)) fun e => Or.inr ((byte_eq _ _).2 e)))]; simp
theorem kpN_all (s : ByteArray) : kpN s s.size = (rmvR s.data.toList).length := by
  unfold kpN; rw [List.take_of_length_le (by simp)]
theorem kpN_top (s : ByteArray) (k : Nat) : kpN s k ≤ (rmvR s.data.toList).length := rmv_take _ _
structure Bf (wc wr : World) (B K : Nat) (l : List UInt8) : Prop where
  below : Below B wc wr
  cell : ∀ j, j < K → wr.cell? ⟨B, j, none⟩ = some (.int .u8 ((l.getD j 0).toNat : Int))
  frz : ∀ j, wr.frozen? ⟨B, j, none⟩ = false
  size : B < wr.heap.size
theorem Bf.put {wc wr : World} {B K : Nat} {l : List UInt8} (h : Bf wc wr B K l) (b : UInt8) (k : Nat) (hk : k = l.length) (hl : l.length < K) : Bf wc (wr.setCell ⟨B, k, none⟩ (.int .u8 (b.toNat : Int))) B K (l ++ [b]) := by
  subst hk
  refine ⟨h.below.setCell (Nat.le_refl _) _, ?_, fun j => by simpa using h.frz j, by simpa using h.size⟩
  intro j hj
  by_cases hjl : j = l.length
  · subst hjl
    rw [World.cell?_setCell_same _ _ _ (h.cell _ hj)]; simp
  · rw [World.cell?_setCell_other _ _ _ _ (by first | (simp; done) | (simp; omega)), h.cell _ hj]
    congr 4
    simp only [List.getD_eq_getElem?_getD, List.getElem?_append]
    split
    · rfl
    · rw [List.getElem?_eq_none (l := [b]) (by simp; omega), List.getElem?_eq_none (l := l) (by omega)]
theorem Bf.start (wc : World) (K : Nat) : Bf wc (wc.alloc (.cells (madeCells #[.int .u8 0] K) 5)) wc.heap.size K [] := by
  refine ⟨(Below.refl _ _).alloc (Nat.le_refl _) _, ?_, fun j => by simp, by simp⟩
  intro j hj
  simp [madeCells, hj, Nat.mod_one]
theorem Bf.drewN {wc wr : World} {B K : Nat} {l : List UInt8} (h : Bf wc wr B K l) (n : Nat) : Bf wc (wr.drewN n) B K l :=
  ⟨below_dn h.below n, fun j hj => by simpa using h.cell j hj, fun j => by simpa using h.frz j, by simpa using h.size⟩
theorem rm_snc (s : ByteArray) (k : Nat) (h : k < s.size) : rmvR (s.data.toList.take (k + 1)) = if s[k].toNat = 45 ∨ s[k].toNat = 32 then rmvR (s.data.toList.take k) else rmvR (s.data.toList.take k) ++ [s[k]] := by
  rw [take_snc s k h, rmv_snoc]
  by_cases hc : s[k] = 45 ∨ s[k] = 32
  · rw [if_pos hc, if_pos (by rcases hc with e | e <;> rw [e]; exact Or.inl rfl; exact Or.inr rfl)]
  · rw [if_neg hc, if_neg (by intro h'; exact hc (h'.elim (fun e => Or.inl ((byte_eq _ _).2 e)) fun e => Or.inr ((byte_eq _ _).2 e)))]
theorem copy_none (a b : Addr) (l c c2 : Nat) (ty : TypeId) (w : World) : (Builtin.copy_ #[36, 36] ty #[.slice (some a) l c, .slice (some b) 0 c2]).run Tryz.prog w = .ok (.int .i64 0) w := by
  have h0 : Nat.min 0 l = 0 := Nat.zero_min l
  simp [Builtin.copy_, run_underlying Tryz.underlying36, Builtin.lenOf, sizeOf, typeInfo, show Tryz.prog.info? 5 = some Tryz.t5 by kernel_rfl, Builtin.firstCells, loadCells, h0]
  rfl
def RmvPost (s : ByteArray) (V : World) (e : Ending) (w' : World) : Prop := e = .returned (.string ⟨(rmvR s.data.toList).toArray⟩) ∧ Below V.heap.size V w'
theorem rmv_self (s : ByteArray) (h : (rmvR s.data.toList).length = s.size) : (⟨(rmvR s.data.toList).toArray⟩ : ByteArray) = s := by
  rw [rmv_all _ (by rw [h]; simp)]
set_option maxHeartbeats 4000000 in
theorem bsr_any (n c1 c2 : Nat) (s : ByteArray) (V : World) (hs : s.size ≤ 1000000) (hR : Rtab n c1 c2 V) :
    Calls Tryz.prog 137 #[.pointer (some ⟨n + 1, 0, none⟩), .string s] V (RmvPost s V) := by
  have HR := Lib.hid hR
  have a2 := hR.rep
  clear hR
  obtain ⟨x, hx⟩ : ∃ x, x = Lib.countByte s.data.toList 32 := ⟨_, rfl⟩
  obtain ⟨y, hy⟩ : ∃ y, y = Lib.countByte s.data.toList 45 := ⟨_, rfl⟩
  have cx : ∀ w, Calls Tryz.prog 139 #[.string s, .string ⟨#[32]⟩] w fun e w' => e = .returned (.int .i64 x) ∧ w' = w := by rw [hx]; exact Tryz.strings_Count_one s 32
  have cy : ∀ w, Calls Tryz.prog 139 #[.string s, .string ⟨#[45]⟩] w fun e w' => e = .returned (.int .i64 y) ∧ w' = w := by rw [hy]; exact Tryz.strings_Count_one s 45
  have hsum : x + y + (rmvR s.data.toList).length = s.size := by
    have := rmv_count s.data.toList
    rw [hx, hy]; unfold Lib.countByte
    rw [this]; simp
  clear hx hy
  go_enter Tryz.func137, Tryz.ntmps137
  go_upto_if 26 with (fail)
  go_cut [5, 6] (fun s5 s6 wx => s5 = .int .i64 ((rmvR s.data.toList).length : Nat) ∧ s6 = .bool (decide ((rmvR s.data.toList).length ≠ s.size)) ∧ Below V.heap.size V wx)
  case first =>
    by_cases h16 : 16 ≤ s.size
    · have hd : decide ((16 : Int) ≤ (s.size : Int)) = true := by simp; omega
      have b0 := HR.out.row 0 (by omega)
      have b1 := HR.out.row 1 (by omega)
      have a0 := HR.out.tab 32 (by omega)
      have a1 := HR.out.tab 45 (by omega)
      simp [tabv, repv] at a0 a1 b0 b1
      have e32 : ∀ h : 0 < (⟨#[32]⟩ : ByteArray).size, ((⟨#[32]⟩ : ByteArray)[0]'h).toNat = 32 := fun _ => rfl
      have e45 : ∀ h : 0 < (⟨#[45]⟩ : ByteArray).size, ((⟨#[45]⟩ : ByteArray)[0]'h).toNat = 45 := fun _ => rfl
      by_cases hx : x = 0 <;> by_cases hy : y = 0
      all_goals
        first | (have hx0 : ((x : Int) != 0) = true := by simpa using hx) | (have hx0 : ((x : Int) != 0) = false := by simpa using hx)
        first | (have hy0 : ((y : Int) != 0) = true := by simpa using hy) | (have hy0 : ((y : Int) != 0) = false := by simpa using hy)
        have HX := Lib.hid hx
        have HY := Lib.hid hy
        clear hx hy
        go_wp2_with fail
        refine wp_loop_rounds 3 ?_
        rw [rounds_succ]
        go_wp2_with (go_at_call 139; refine (cx _).mono ?_; rintro e w' ⟨rfl, rfl⟩)
        try (go_quiet (fail); go_wp2_with fail)
        rw [rounds_succ]
        go_wp2_with (go_at_call 139; refine (cy _).mono ?_; rintro e w' ⟨rfl, rfl⟩)
        try (go_quiet (fail); go_wp2_with fail)
        rw [rounds_succ]
        go_wp2_with fail
        go_meet
        have hx := HX.out
        have hy := HY.out
        refine ⟨by congr 1; omega, by congr 1; symm; first | exact decide_eq_true (by omega) | exact decide_eq_false (by omega), ?_⟩
        first | exact Below.refl _ _ | exact below_dn (Below.refl _ _) _
    · have hd : decide ((16 : Int) ≤ (s.size : Int)) = false := by simp; omega
      clear cx cy hsum
      have h16' : s.size < 16 := by omega
      go_wp2_with fail
      go_loop [5, 6, 10] (fun s5 s6 i => ∃ k : Nat, k ≤ s.size ∧ i = .int .i64 k ∧ s5 = .int .i64 ((s.size - k + kpN s k : Nat)) ∧ s6 = .bool (decide (kpN s k ≠ k))) (fun _ _ i => s.size - (intOf i).toNat)
      case atStart => exact ⟨0, Nat.zero_le _, rfl, by simp [kpN, rmvR], by simp [kpN, rmvR]⟩
      case round =>
        obtain ⟨k, hk, rfl, rfl, rfl⟩ := hrel
        have hle := kpN_le s k
        by_cases hlt : k < s.size
        · have ht := HR.out.tab s[k].toNat s[k].toNat_lt
          have HS := Lib.hid (kpN_snc s k hlt)
          have HT : tabv n c1 c2 s[k].toNat = if s[k].toNat = 45 then .slice (some ⟨n + 7, 0, none⟩) 0 c2 else if s[k].toNat = 32 then .slice (some ⟨n + 4, 0, none⟩) 0 c1 else .slice none 0 0 := rfl
          rw [HT] at ht
          clear HT
          have hbd : ((s[k].toNat : Nat) : Int) < 256 := by have := s[k].toNat_lt; omega
          have HB : k < s.size := hlt
          have h3 : s[k].toNat = 45 ∨ s[k].toNat = 32 ∨ (¬ s[k].toNat = 45 ∧ ¬ s[k].toNat = 32) := by omega
          have H3 := Lib.hid h3
          rcases h3 with h1 | h1 | h1
          · rw [h1, if_pos rfl] at ht
            go_wp2
            go_round
            case rel =>
              have hs1 := HS.out
              rw [if_pos (Or.inl h1)] at hs1
              refine ⟨k + 1, by omega, by go_num, ?_, ?_⟩
              · congr 1; rw [hs1]; omega
              · congr 1; rw [hs1]; symm; exact decide_eq_true (by omega)
            case measure => simp [intOf]; omega
          · rw [h1, if_neg (by decide), if_pos rfl] at ht
            go_wp2
            go_round
            case rel =>
              have hs1 := HS.out
              rw [if_pos (Or.inr h1)] at hs1
              refine ⟨k + 1, by omega, by go_num, ?_, ?_⟩
              · congr 1; rw [hs1]; omega
              · congr 1; rw [hs1]; symm; exact decide_eq_true (by omega)
            case measure => simp [intOf]; omega
          · rw [if_neg h1.1, if_neg h1.2] at ht
            have H1 := Lib.hid h1
            clear h1
            go_wp2
            go_round
            case rel =>
              have hs1 := HS.out
              have h1 := H1.out
              rw [if_neg (by omega)] at hs1
              refine ⟨k + 1, by omega, by go_num, ?_, ?_⟩
              · congr 1; rw [hs1]; omega
              · congr 1; rw [hs1]; simp
            case measure => simp [intOf]; omega
        · obtain rfl : k = s.size := by omega
          have hka := Lib.hid (kpN_all s)
          go_wp2
          go_meet
          rw [← hka.out]
          refine ⟨?_, ?_, Below.refl _ _⟩
          · first | (congr 1; done) | (congr 1; omega)
          · first | rfl | (congr 1; simp) | trace_state
  case rest =>
    obtain ⟨rfl, rfl, hbw⟩ := hcut
    obtain ⟨K, hK⟩ : ∃ K, K = (rmvR s.data.toList).length := ⟨_, rfl⟩
    have hKs : K ≤ s.size := by rw [hK]; have := rmvR_len s.data.toList; simpa using this
    rw [← hK]
    have HK := Lib.hid hK
    clear hK hsum cx cy
    have hW := hbw.size
    have HW := Lib.hid hbw
    clear hbw
    by_cases hq : K = s.size
    · have hd : decide (K ≠ s.size) = false := by simp [hq]
      rw [hd]
      have HQ := Lib.hid hq
      clear hd hq
      go_wp2
      go_ret
      exact ⟨by rw [rmv_self s (by rw [← HK.out]; exact HQ.out)]; rfl, HW.out⟩
    · have hd : decide (K ≠ s.size) = true := by simp [hq]
      rw [hd]
      have hmk := run_make (P := Tryz.prog) wc 36 5 Tryz.t5 (.int .u8 0) Tryz.underlying36 (by kernel_rfl) (by kernel_rfl) .i64 .i64 K K (by omega) (by omega) (by show ((1 : Nat) : Int) * K ≤ _; omega) (by omega)
      rw [show (K : Int).toNat * Tryz.t5.size = K by show (K : Int).toNat * 1 = K; omega, show (K : Int).toNat = K by omega] at hmk
      go_wp2
      clear hmk hd
      go_loopw [13, 14] (fun s13 s14 wr => ∃ k : Nat, k ≤ s.size ∧ s14 = .int .i64 k ∧ s13 = .int .i64 (kpN s k) ∧ Bf wc wr wc.heap.size K (rmvR (s.data.toList.take k))) (fun _ i _ => s.size - (intOf i).toNat)
      case atStart => exact ⟨0, Nat.zero_le _, rfl, by simp [kpN, rmvR], Bf.start wc K⟩
      case round =>
        obtain ⟨k, hk, rfl, rfl, hB⟩ := hrel
        have HBf := Lib.hid hB
        have hb1 := hB.size
        clear hB
        by_cases hlt : k < s.size
        · have HS := Lib.hid (kpN_snc s k hlt)
          have hsz := HR.out.size
          have ht := ((HBf.out.below.cell (p := ⟨n + 1, s[k].toNat, none⟩) (show n + 1 < wc.heap.size by omega)).trans (HW.out.cell (p := ⟨n + 1, s[k].toNat, none⟩) (show n + 1 < V.heap.size by omega))).trans (HR.out.tab s[k].toNat s[k].toNat_lt)
          have HT : tabv n c1 c2 s[k].toNat = if s[k].toNat = 45 then .slice (some ⟨n + 7, 0, none⟩) 0 c2 else if s[k].toNat = 32 then .slice (some ⟨n + 4, 0, none⟩) 0 c1 else .slice none 0 0 := rfl
          rw [HT] at ht
          clear HT
          have hbd : ((s[k].toNat : Nat) : Int) < 256 := by have := s[k].toNat_lt; omega
          have h3 : s[k].toNat = 45 ∨ s[k].toNat = 32 ∨ (¬ s[k].toNat = 45 ∧ ¬ s[k].toNat = 32) := by omega
          have hkK : kpN s k ≤ K := by rw [HK.out]; exact kpN_top s k
          rcases h3 with h1 | h1 | h1
          · rw [h1, if_pos rfl] at ht
            have hcp := copy_none
            rcases Nat.lt_or_eq_of_le hkK with hkK | hkK
            · have hcl : (kpN s k : Int) < K := by omega
              have hne : ¬ K = kpN s k := by omega
              have hne' : ¬ kpN s k = K := by omega
              have hsub : 0 < K - kpN s k := by omega
              go_wp2
              go_quiet (fail)
              go_wp2_with fail
              clear hne hne'
              go_roundw
              case rel =>
                have hs1 := HS.out
                rw [if_pos (Or.inl h1)] at hs1
                exact ⟨k + 1, by omega, by go_num, by rw [hs1], by rw [rm_snc s k hlt, if_pos (Or.inl h1)]; exact HBf.out.drewN _⟩
              case measure => simp [intOf]; omega
            · obtain rfl : K = kpN s k := hkK.symm
              go_wp2
              go_quiet (fail)
              go_wp2_with fail
              go_roundw
              case rel =>
                have hs1 := HS.out
                rw [if_pos (Or.inl h1)] at hs1
                exact ⟨k + 1, by omega, by go_num, by rw [hs1], by rw [rm_snc s k hlt, if_pos (Or.inl h1)]; exact HBf.out.drewN _⟩
              case measure => simp [intOf]; omega
          · rw [h1, if_neg (by decide), if_pos rfl] at ht
            have hcp := copy_none
            rcases Nat.lt_or_eq_of_le hkK with hkK | hkK
            · have hcl : (kpN s k : Int) < K := by omega
              have hne : ¬ K = kpN s k := by omega
              have hne' : ¬ kpN s k = K := by omega
              have hsub : 0 < K - kpN s k := by omega
              go_wp2
              go_quiet (fail)
              go_wp2_with fail
              clear hne hne'
              go_roundw
              case rel =>
                have hs1 := HS.out
                rw [if_pos (Or.inr h1)] at hs1
                exact ⟨k + 1, by omega, by go_num, by rw [hs1], by rw [rm_snc s k hlt, if_pos (Or.inr h1)]; exact HBf.out.drewN _⟩
              case measure => simp [intOf]; omega
            · obtain rfl : K = kpN s k := hkK.symm
              go_wp2
              go_quiet (fail)
              go_wp2_with fail
              go_roundw
              case rel =>
                have hs1 := HS.out
                rw [if_pos (Or.inr h1)] at hs1
                exact ⟨k + 1, by omega, by go_num, by rw [hs1], by rw [rm_snc s k hlt, if_pos (Or.inr h1)]; exact HBf.out.drewN _⟩
              case measure => simp [intOf]; omega
          · rw [if_neg h1.1, if_neg h1.2] at ht
            have H1 := Lib.hid h1
            have hkK1 : kpN s k < K := by
              have h := kpN_top s (k + 1); have hs1 := HS.out; have hk' := HK.out
              rw [if_neg (by omega)] at hs1; omega
            have hc := HBf.out.cell (kpN s k) hkK1
            have hf := HBf.out.frz (kpN s k)
            have hkK2 : (kpN s k : Int) < K := by omega
            clear h1
            go_wp2
            go_roundw
            case rel =>
              have hs1 := HS.out
              have h1 := H1.out
              rw [if_neg (by omega)] at hs1
              exact ⟨k + 1, by omega, by go_num, by rw [hs1]; go_num, by rw [rm_snc s k hlt, if_neg (by omega)]; exact HBf.out.put s[k] _ rfl hkK1⟩
            case measure => simp [intOf]; omega
        · obtain rfl : k = s.size := by omega
          have hcv : (convert 36 9 (.slice (some ⟨wc.heap.size, 0, none⟩) K K)).run Tryz.prog wr = .ok (.string ⟨(rmvR s.data.toList).toArray⟩) wr := by
            have h := run_convert_bytes_back (P := Tryz.prog) wr 36 9 5 ⟨wc.heap.size, 0, none⟩ K (rmvR s.data.toList) Tryz.underlying36 Tryz.underlying5 Tryz.underlying9 (by
              intro j hj
              rw [Addr.add_lit, Nat.zero_add, HBf.out.cell j (by rw [HK.out]; exact hj)]
              rw [List.take_of_length_le (by simp)]; simp [List.getD_eq_getElem?_getD, List.getElem?_eq_getElem hj])
            rw [← HK.out] at h
            exact h
          go_wp2
          go_ret
          exact ⟨rfl, (HW.out).trans (HBf.out.below.mono hW)⟩

end Go.Proofs.YtjljjnipjhbeaaaGreatDoor

set_option maxRecDepth 100000
set_option linter.unusedSimpArgs false
set_option linter.unusedVariables false
namespace Go.Proofs.YtjljjnipjhbeaaaGreatDoor
open Go Ab Pl
open Go.RowKit
def Gone (b : Nat) (s : ByteArray) (w : World) (e : Ending) (w' : World) : Prop := e = .returned (.string ⟨(rmvR s.data.toList).toArray⟩) ∧ Below b w w'
def Came31 (b : Nat) (w : World) (e : Ending) (w' : World) : Prop := e = .returned (.tuple #[]) ∧ ∃ n c1 c2, Rpl b n c1 c2 w w'
theorem once_came (b k c : Nat) (v : Value) (w : World) (hb : b < w.heap.size) (hk : k < w.heap.size) (hbk : b ≠ k)
    (h0 : w.cell? ⟨b, 0, none⟩ = some (.int .u32 0)) (h1 : w.cell? ⟨b, 1, none⟩ = some (.int .i32 0)) (h3 : w.cell? ⟨b, 3, none⟩ = some v) (h4 : w.cell? ⟨b, 4, none⟩ = some (.slice (some ⟨k, 0, none⟩) 4 c))
    (fr : ∀ j, w.frozen? ⟨b, j, none⟩ = false)
    (k0 : w.cell? ⟨k, 0, none⟩ = some (.string ⟨#[45]⟩)) (k1 : w.cell? ⟨k, 1, none⟩ = some (.string ⟨#[]⟩)) (k2 : w.cell? ⟨k, 2, none⟩ = some (.string ⟨#[32]⟩)) (k3 : w.cell? ⟨k, 3, none⟩ = some (.string ⟨#[]⟩)) :
    Calls Tryz.prog 47 #[.pointer (some ⟨b, 0, none⟩), .func (.func 48) #[.pointer (some ⟨b, 0, none⟩)] #[]] w (Came31 b w) := by
  have ho : ∀ j, j ≠ 1 → (w.setCell ⟨b, 0 + 1, none⟩ (.int .i32 1)).cell? ⟨b, j, none⟩ = w.cell? ⟨b, j, none⟩ := fun j hj => World.cell?_setCell_other _ _ _ _ (by first | (simp; done) | (simp; omega))
  have hok : ∀ j, (w.setCell ⟨b, 0 + 1, none⟩ (.int .i32 1)).cell? ⟨k, j, none⟩ = w.cell? ⟨k, j, none⟩ := fun j => World.cell?_setCell_other _ _ _ _ (by first | (simp; done) | (simp; omega))
  have hbo := buildOnce_any b k c v (w.setCell ⟨b, 0 + 1, none⟩ (.int .i32 1)) (by simpa using hb) (by simpa using hk) ((ho 0 (by omega)).trans h0) (World.cell?_setCell_same _ _ _ h1) ((ho 3 (by omega)).trans h3) ((ho 4 (by omega)).trans h4) (fun j => by simpa using fr j) ((hok 0).trans k0) ((hok 1).trans k1) ((hok 2).trans k2) ((hok 3).trans k3)
  refine (once_do b 0 ⟨b, 0, none⟩ (RplQ b (w.setCell ⟨b, 0 + 1, none⟩ (.int .i32 1))) w h0 h1 (fr 0) (fr 1) hbo).mono ?_
  rintro e w' ⟨rfl, w1, ⟨n, c1, c2, hr⟩, rfl⟩
  have h := ((hr.drew).set 0 (by omega) (.int .u32 1)).set 1 (by omega) (.int .i32 0)
  exact ⟨rfl, n, c1, c2, h.ifc, h.tab, h.rep, h.row, ((Below.refl b w).setCell (p := ⟨b, 0 + 1, none⟩) (Nat.le_refl _) _).trans h.below, h.lt, h.size⟩
set_option maxHeartbeats 4000000 in
theorem replace_any (b k c : Nat) (v : Value) (s : ByteArray) (hs : s.size ≤ 1000000) (w : World) (hb : b < w.heap.size) (hk : k < w.heap.size) (hbk : b ≠ k)
    (h0 : w.cell? ⟨b, 0, none⟩ = some (.int .u32 0)) (h1 : w.cell? ⟨b, 1, none⟩ = some (.int .i32 0)) (h3 : w.cell? ⟨b, 3, none⟩ = some v) (h4 : w.cell? ⟨b, 4, none⟩ = some (.slice (some ⟨k, 0, none⟩) 4 c))
    (fr : ∀ j, w.frozen? ⟨b, j, none⟩ = false)
    (k0 : w.cell? ⟨k, 0, none⟩ = some (.string ⟨#[45]⟩)) (k1 : w.cell? ⟨k, 1, none⟩ = some (.string ⟨#[]⟩)) (k2 : w.cell? ⟨k, 2, none⟩ = some (.string ⟨#[32]⟩)) (k3 : w.cell? ⟨k, 3, none⟩ = some (.string ⟨#[]⟩)) :
    Calls Tryz.prog 31 #[.pointer (some ⟨b, 0, none⟩), .string s] w (Gone b s w) := by
  have hdo := once_came b k c v w hb hk hbk h0 h1 h3 h4 fr k0 k1 k2 k3
  have hmf : ∀ (fn : Fn) (first cap : Array Value) (w : World), (Instr.makeFunc fn first cap).run Tryz.prog w = .ok (.func fn first cap) w := fun _ _ _ _ => rfl
  clear h0 h1 h3 h4 fr k0 k1 k2 k3
  go_enter Tryz.func31, Tryz.ntmps31
  go_wp2_with (go_at_call 47; refine hdo.mono ?_; rintro e w' ⟨rfl, n, c1, c2, hR⟩; have HR := Lib.hid hR; have hi := hR.ifc; clear hR)
  refine (bsr_any n c1 c2 s _ hs ⟨HR.out.tab, HR.out.rep, HR.out.row, by have := HR.out.size; omega⟩).mono ?_
  rintro e w2 ⟨rfl, hB2⟩
  have HB := Lib.hid hB2
  clear hB2
  go_wp2
  go_ret
  exact ⟨rfl, HR.out.below.trans (HB.out.mono (by have := HR.out.size; have := HR.out.lt; omega))⟩

end Go.Proofs.YtjljjnipjhbeaaaGreatDoor

set_option maxRecDepth 100000
set_option linter.unusedSimpArgs false
set_option linter.unusedVariables false
namespace Go.Proofs.YtjljjnipjhbeaaaGreatDoor
open Go Ab Pl
open Go.RowKit
def Isb1 (s : ByteArray) (a : Act) (w : World) (Q : Exit → Act → World → Prop) : Prop := ∀ v6 v7 w', Below w.heap.size w w' → Q .normal (((((a.put (some 6) v6).put (some 7) v7).put (some 8) (.string s)).put (some 9) (.string ⟨(rmvR s.data.toList).toArray⟩)).put (some 0) (.string ⟨(rmvR s.data.toList).toArray⟩)) w'
abbrev isbOps : Array Oper := #[{ dst := some 6, op := .buildSlice 62 4 #[(0, .const (.string ⟨#[45]⟩)), (1, .const (.string ⟨#[]⟩)), (2, .const (.string ⟨#[32]⟩)), (3, .const (.string ⟨#[]⟩))], type := 62, pos := "barcode.go:93", after := #[], guard := none },
  { dst := some 7, op := .call { callee := .value (.func 30), args := #[.tmp 6], argTypes := #[62] }, type := 46, pos := "barcode.go:93", after := #[{ on := 0, ground := .data }], guard := none },
  { dst := some 8, op := .move (.tmp 0), type := 9, pos := "barcode.go:93", after := #[], guard := none },
  { dst := some 9, op := .call { callee := .value (.func 31), args := #[.tmp 7, .tmp 8], argTypes := #[46, 9] }, type := 9, pos := "barcode.go:93", after := #[{ on := 1, ground := .data }, { on := 2, ground := .data }, { on := 1, ground := .chain }], guard := none },
  { dst := some 0, op := .assign (.tmp 9), type := 9, pos := "barcode.go:93", after := #[{ on := 3, ground := .data }, { on := 3, ground := .chain }, { on := 0, ground := .phase }, { on := 1, ground := .phase }, { on := 2, ground := .phase }, { on := 3, ground := .phase }], guard := none }]
set_option maxHeartbeats 400000 in
theorem isbn_ops (a : Act) (w : World) (s : ByteArray) (hN : 54 ≤ a.tmps.size) (h0 : a.tmps.getD 0 undef = .string s) (hs : s.size ≤ 1000000) (Q : Exit → Act → World → Prop) (hQ : Isb1 s a w Q) :
    (Code.region 1 isbOps false).wp Tryz.prog Q a w := by
  have h0' : a.tmps[0]?.getD undef = .string s := by rw [← h0, Array.getD_eq_getD_getElem?]
  go_wp2_with fail
  refine (newRepl_any w.heap.size 4 _ (by simp) (by simp) (by simp) (by simp) (by simp)).mono ?_
  rintro e w1 ⟨b, k, c, v, rfl, hn, hbl, hle⟩
  have HN := Lib.hid hn
  have HB := Lib.hid hbl
  clear hn hbl
  go_wp2_with fail
  refine (replace_any b k c v s hs _ HN.out.hb HN.out.hk HN.out.ne HN.out.h0 HN.out.h1 HN.out.h3 HN.out.h4 HN.out.fr HN.out.k0 HN.out.k1 HN.out.k2 HN.out.k3).mono ?_
  rintro e w2 ⟨rfl, hB2⟩
  have HC := Lib.hid hB2
  clear hB2
  go_wp2_with fail
  have hb1 : Below w.heap.size w w2 := by
    have h1 := HB.out
    have h2 := HC.out
    have h3 : w.heap.size ≤ b := by have := hle; simp at this; omega
    exact ((((Below.refl _ _).alloc (Nat.le_refl _) _)).trans (h1.mono (by simp))).trans (h2.mono h3)
  have h := hQ (.slice (some ⟨w.heap.size, 0, none⟩) 4 4) (.pointer (some ⟨b, 0, none⟩)) w2 hb1
  first | exact h | simpa [Act.put] using h
theorem isbn_reg {base : Nat} {S0 : Nat → Nat → Prop} {w0 : World} {N : Nat} {σ : St} {Q : Exit → St → Prop} (s : List UInt8) (hl : s.length ≤ 1000000) (hN : 54 ≤ N) (hσ : σ.get 0 = .val (.str s))
    {id : Nat} (hid : id = 1)
    (hQ : Q .normal ((0, .val (.str (rmvR s))) :: (9, .junk) :: (8, .junk) :: (7, .junk) :: (6, .junk) :: σ)) : AWp E base S0 w0 N (.region id isbOps false) σ Q := by
  subst hid
  intro a w ⟨bk, h⟩
  have h0 := h.slots 0
  rw [hσ] at h0
  have hv : a.tmps.getD 0 undef = .string ⟨s.toArray⟩ := by
    have h0' : Rep w (stab base S0 σ.get bk w.heap.size) (.str s) (a.tmps.getD 0 undef) := h0
    generalize a.tmps.getD 0 undef = v at h0' ⊢
    cases h0'; rfl
  refine isbn_ops a w ⟨s.toArray⟩ (by rw [h.size]; exact hN) hv (by simpa using hl) _ ?_
  intro v6 v7 w' hw
  have h1 := h.put (d := 6) (t := .junk) (v := v6) (by omega) hw rfl trivial
  have h2 := h1.put (d := 7) (t := .junk) (v := v7) (by omega) (Below.refl _ _) rfl trivial
  have h3 := h2.put (d := 8) (t := .junk) (v := .string ⟨s.toArray⟩) (by omega) (Below.refl _ _) rfl trivial
  have h4 := h3.put (d := 9) (t := .junk) (v := .string ⟨(rmvR s).toArray⟩) (by omega) (Below.refl _ _) rfl trivial
  have h5 := h4.put (d := 0) (t := .val (.str (rmvR s))) (v := .string ⟨(rmvR s).toArray⟩) (by omega) (Below.refl _ _) rfl (by exact Rep.str _ (by have := rmvR_len s; simp only [maxLen]; omega))
  refine ⟨_, hQ, clr (clr (clr (clr (clr bk 6) 7) 8) 9) 0, ?_⟩
  have e : (St.get ((0, T.val (D.str (rmvR s))) :: (9, T.junk) :: (8, T.junk) :: (7, T.junk) :: (6, T.junk) :: σ)) = upd (upd (upd (upd (upd σ.get 6 T.junk) 7 T.junk) 8 T.junk) 9 T.junk) 0 (T.val (D.str (rmvR s))) := by
    funext n
    simp only [St.get, upd]
    repeat' split
    all_goals first | rfl | omega
  rw [e]
  exact h5

end Go.Proofs.YtjljjnipjhbeaaaGreatDoor

set_option maxRecDepth 100000
set_option linter.unusedSimpArgs false
set_option linter.unusedVariables false
namespace Go.Proofs.YtjljjnipjhbeaaaGreatDoor
open Go Ab Pl
theorem barcode_weighted (s : List UInt8) (hl : s.length ≤ 2000) : ACalls E.P 32 [.str s] (.tup [.int .i64 ((wtF 0 s).getD 0), .bool (wtF 0 s).isSome]) := by
  refine ACalls.intro E_ok Tryz.func32 rfl rfl Tryz.ntmps32 Tryz.results32 (Nat.le_of_ble_eq_true rfl) fun hok base S0 w0 => ?_
  -- region 0
  refine AWp.rseq E_ok [0, 2, 3, 4, 5, 6, 10, 28, 34] fun K hK => ?_
  simp
  try simp (disch := omega) only [wrap_i64]
  repeat refine ⟨by first | omega | assumption | (simp only [maxLen]; omega) | (intros; omega) | decide, ?_⟩
  refine hK _ ?_
  clear hK K
  -- region 1
  refine AWp.rseq E_ok [0, 2, 3, 4, 5, 6, 10, 28, 34] fun K hK => ?_
  simp
  try simp (disch := omega) only [wrap_i64]
  repeat refine ⟨by first | omega | assumption | (simp only [maxLen]; omega) | (intros; omega) | decide, ?_⟩
  refine hK _ ?_
  clear hK K
  refine AWp.seq ?_
  -- region 2
  refine AWp.rseq E_ok [0, 2, 3, 4, 5, 6, 10, 28, 34] fun K hK => ?_
  simp
  try simp (disch := omega) only [wrap_i64]
  repeat refine ⟨by first | omega | assumption | (simp only [maxLen]; omega) | (intros; omega) | decide, ?_⟩
  refine hK _ ?_
  clear hK K
  refine AWp.block ?_
  refine AWp.range (l := s) (F := wtF) (tot := wtF 0 s) (fun k y => match y with | c => 0 ≤ c ∧ c ≤ 20000 * (k : Int)) (fun k y => match y with | c => [(0, T.val (D.str s)), (4, T.val (.int .i64 c)), (5, T.val (.int .i64 k))]) (0) ?_ rfl ?_ ?_
  · simp [Weak, TW]
  · simp
  rintro k c hk hs hi
  try simp only at hi
  refine AWp.seq ?_
  -- region 3
  refine AWp.rseq E_ok [0, 2, 3, 4, 5, 6, 10, 28, 34] fun K hK => ?_
  simp
  try simp (disch := omega) only [wrap_i64]
  repeat refine ⟨by first | omega | assumption | (simp only [maxLen]; omega) | (intros; omega) | decide, ?_⟩
  refine hK _ ?_
  clear hK K
  refine AWp.cond rfl (fun h10 => ?_) (fun h10 => ?_)
  · try simp at h10
    obtain ⟨x, hx, hxx, hd⟩ := at_indexG (l := s) h10
    rw [hd] at hs
    have hxn : (x.toNat : Int) ≤ 255 := by have := x.toNat_lt; omega
    have hdl : ((List.drop (k + 1) s).length : Int) + 1 = (s.length : Int) - (k : Int) := by rw [List.length_drop]; omega
    obtain ⟨w, hw0⟩ : ∃ w, (s.length : Int) - (k : Int) = w := ⟨_, rfl⟩
    have hwr : 1 ≤ w ∧ w ≤ 2000 := by omega
    refine AWp.skip ?_
    repeat first | refine thenN ?_ | refine thenX ?_ | refine thenR ?_ | refine blockN ?_ | refine blockR ?_ | refine blockX ?_ | refine blockM rfl ?_
    refine AWp.seq ?_
    refine AWp.block ?_
    -- region 5
    refine AWp.rseq E_ok [0, 2, 3, 4, 5, 6, 10, 28, 34] fun K hK => ?_
    simp [h10, hw0, hx, hxx]
    try simp (disch := omega) only [wrap_i64]
    repeat refine ⟨by first | omega | assumption | (simp only [maxLen]; omega) | (intros; omega) | decide, ?_⟩
    refine hK _ ?_
    clear hK K
    refine AWp.seq ?_
    -- region 6
    refine AWp.rseq E_ok [0, 2, 3, 4, 5, 6, 10, 28, 34] fun K hK => ?_
    simp [h10, hw0, hx, hxx]
    try simp (disch := omega) only [wrap_i64]
    repeat refine ⟨by first | omega | assumption | (simp only [maxLen]; omega) | (intros; omega) | decide, ?_⟩
    refine hK _ ?_
    clear hK K
    refine AWp.cond rfl (fun h28 => ?_) (fun h28 => ?_)
    · try simp at h28
      have h88 : x = 88 := nat_u8 (y := 88) h28.2
      rw [wtF, if_pos ⟨List.eq_nil_of_length_eq_zero (by omega), h88⟩, hdl, hw0] at hs
      -- region 7
      refine AWp.rend E_ok [0, 2, 3, 4, 5, 6, 10, 28, 34] fun K hK => ?_
      simp [h10, hw0, hx, hxx]
      try simp (disch := omega) only [wrap_i64]
      repeat refine ⟨by first | omega | assumption | (simp only [maxLen]; omega) | (intros; omega) | decide, ?_⟩
      refine hK _ ?_
      clear hK K
      repeat first | refine thenN ?_ | refine thenX ?_ | refine thenR ?_ | refine blockN ?_ | refine blockR ?_ | refine blockX ?_ | refine blockM rfl ?_
      -- region 10
      refine AWp.rend E_ok [0, 2, 3, 4, 5, 6, 10, 28, 34] fun K hK => ?_
      simp [h10, hw0, hx, hxx]
      try simp (disch := omega) only [wrap_i64]
      repeat refine ⟨by first | omega | assumption | (simp only [maxLen]; omega) | (intros; omega) | decide, ?_⟩
      refine hK _ ?_
      clear hK K
      repeat first | refine thenN ?_ | refine thenX ?_ | refine thenR ?_ | refine blockN ?_ | refine blockR ?_ | refine blockX ?_ | refine blockM rfl ?_
      -- region 4
      refine AWp.rend E_ok [0, 2, 3, 4, 5, 6, 10, 28, 34] fun K hK => ?_
      simp [h10, hw0, hx, hxx]
      try simp (disch := omega) only [wrap_i64]
      repeat refine ⟨by first | omega | assumption | (simp only [maxLen]; omega) | (intros; omega) | decide, ?_⟩
      refine hK _ ?_
      clear hK K
      repeat first | refine thenN ?_ | refine thenX ?_ | refine thenR ?_ | refine blockN ?_ | refine blockR ?_ | refine blockX ?_ | refine blockM rfl ?_
      have hw : IntKind.i64.wrap ((k : Int) + 1) = (k : Int) + 1 := by rw [wrap_i64] <;> omega
      skip
      refine ⟨_, h10, hs, ?_, ?_⟩
      · omega
      · simp [Weak, TW, hw] <;> omega
    · try simp at h28
      -- region 8
      refine AWp.rseq E_ok [0, 2, 3, 4, 5, 6, 10, 28, 34] fun K hK => ?_
      simp [h10, hw0, hx, hxx]
      try simp (disch := omega) only [wrap_i64]
      repeat refine ⟨by first | omega | assumption | (simp only [maxLen]; omega) | (intros; omega) | decide, ?_⟩
      refine hK _ ?_
      clear hK K
      refine AWp.cond rfl (fun h34 => ?_) (fun h34 => ?_)
      · try simp at h34
        have hnd : ¬ isDig x = true := by simp [isDig]; omega
        rw [wtF, if_neg (by rintro ⟨h1, h2⟩; have := congrArg List.length h1; rw [List.length_nil] at this; exact h28 (by omega) (by rw [h2]; rfl)), if_neg hnd] at hs
        -- region 9
        refine AWp.rseq E_ok [0, 2, 3, 4, 5, 6, 10, 28, 34] fun K hK => ?_
        simp [h10, hw0, hx, hxx]
        try simp (disch := omega) only [wrap_i64]
        repeat refine ⟨by first | omega | assumption | (simp only [maxLen]; omega) | (intros; omega) | decide, ?_⟩
        refine hK _ ?_
        clear hK K
        refine AWp.ret ?_
        repeat first | refine thenN ?_ | refine thenX ?_ | refine thenR ?_ | refine blockN ?_ | refine blockR ?_ | refine blockX ?_ | refine blockM rfl ?_
        simp [RetOk, RV, RVs, ← hs]
      · try simp at h34
        have hnd : isDig x = true := by simp [isDig]; omega
        have hdr := dB_rng hnd
        obtain ⟨pr, hpr⟩ : ∃ z, dB x * w = z := ⟨_, rfl⟩
        have hpr0 : 0 ≤ pr := by rw [← hpr]; exact Int.mul_nonneg hdr.1 (by omega)
        have hpr1 : pr ≤ 9 * w := by rw [← hpr]; exact Int.mul_le_mul_of_nonneg_right hdr.2 (by omega)
        have hpr2 : ((x.toNat : Int) - 48) * w = pr := hpr
        rw [wtF, if_neg (by rintro ⟨h1, h2⟩; subst h2; exact absurd hnd (by decide)), if_pos hnd, hdl, hw0, hpr] at hs
        refine AWp.skip ?_
        repeat first | refine thenN ?_ | refine thenX ?_ | refine thenR ?_ | refine blockN ?_ | refine blockR ?_ | refine blockX ?_ | refine blockM rfl ?_
        -- region 10
        refine AWp.rend E_ok [0, 2, 3, 4, 5, 6, 10, 28, 34] fun K hK => ?_
        simp [h10, hw0, hx, hxx, hpr2]
        try simp (disch := omega) only [wrap_i64]
        repeat refine ⟨by first | omega | assumption | (simp only [maxLen]; omega) | (intros; omega) | decide, ?_⟩
        refine hK _ ?_
        clear hK K
        repeat first | refine thenN ?_ | refine thenX ?_ | refine thenR ?_ | refine blockN ?_ | refine blockR ?_ | refine blockX ?_ | refine blockM rfl ?_
        -- region 4
        refine AWp.rend E_ok [0, 2, 3, 4, 5, 6, 10, 28, 34] fun K hK => ?_
        simp [h10, hw0, hx, hxx, hpr2]
        try simp (disch := omega) only [wrap_i64]
        repeat refine ⟨by first | omega | assumption | (simp only [maxLen]; omega) | (intros; omega) | decide, ?_⟩
        refine hK _ ?_
        clear hK K
        repeat first | refine thenN ?_ | refine thenX ?_ | refine thenR ?_ | refine blockN ?_ | refine blockR ?_ | refine blockX ?_ | refine blockM rfl ?_
        have hw : IntKind.i64.wrap ((k : Int) + 1) = (k : Int) + 1 := by rw [wrap_i64] <;> omega
        skip
        refine ⟨_, h10, hs, ?_, ?_⟩
        · omega
        · simp [Weak, TW, hw] <;> omega
  · try simp at h10
    obtain rfl : k = s.length := by omega
    simp [wtF] at hs
    refine AWp.exit ?_
    repeat first | refine thenN ?_ | refine thenX ?_ | refine thenR ?_ | refine blockN ?_ | refine blockR ?_ | refine blockX ?_ | refine blockM rfl ?_
    -- region 11
    refine AWp.rseq E_ok [0, 2, 3, 4, 5, 6, 10, 28, 34] fun K hK => ?_
    simp [h10]
    try simp (disch := omega) only [wrap_i64]
    repeat refine ⟨by first | omega | assumption | (simp only [maxLen]; omega) | (intros; omega) | decide, ?_⟩
    refine hK _ ?_
    clear hK K
    refine AWp.ret ?_
    repeat first | refine thenN ?_ | refine thenX ?_ | refine thenR ?_ | refine blockN ?_ | refine blockR ?_ | refine blockX ?_ | refine blockM rfl ?_
    simp [RetOk, RV, RVs, ← hs]
end Go.Proofs.YtjljjnipjhbeaaaGreatDoor

set_option maxRecDepth 100000
set_option linter.unusedSimpArgs false
set_option linter.unusedVariables false
namespace Go.Proofs.YtjljjnipjhbeaaaGreatDoor
open Go Ab Pl
theorem barcode_alternating (s : List UInt8) (hl : s.length ≤ 2000) : ACalls E.P 33 [.str s] (.d (.int .i64 (altR s))) := by
  refine ACalls.intro E_ok Tryz.func33 rfl rfl Tryz.ntmps33 Tryz.results33 (Nat.le_of_ble_eq_true rfl) fun hok base S0 w0 => ?_
  -- region 0
  refine AWp.rseq E_ok [0, 2, 3, 4, 8] fun K hK => ?_
  simp
  try simp (disch := omega) only [wrap_i64]
  repeat refine ⟨by first | omega | assumption | (simp only [maxLen]; omega) | (intros; omega) | decide, ?_⟩
  refine hK _ ?_
  clear hK K
  -- region 1
  refine AWp.rseq E_ok [0, 2, 3, 4, 8] fun K hK => ?_
  simp
  try simp (disch := omega) only [wrap_i64]
  repeat refine ⟨by first | omega | assumption | (simp only [maxLen]; omega) | (intros; omega) | decide, ?_⟩
  refine hK _ ?_
  clear hK K
  refine AWp.seq ?_
  -- region 2
  refine AWp.rseq E_ok [0, 2, 3, 4, 8] fun K hK => ?_
  simp
  try simp (disch := omega) only [wrap_i64]
  repeat refine ⟨by first | omega | assumption | (simp only [maxLen]; omega) | (intros; omega) | decide, ?_⟩
  refine hK _ ?_
  clear hK K
  refine AWp.block ?_
  refine AWp.range (l := s) (F := altF) (tot := altF (false, 0) s) (fun k y => match y with | (t, c) => 0 ≤ c ∧ c ≤ 765 * (k : Int) ∧ t = decide ((k : Int) % 2 = 1)) (fun k y => match y with | (t, c) => [(0, T.val (D.str s)), (3, T.val (.int .i64 c)), (4, T.val (.int .i64 k))]) (false, 0) ?_ rfl ?_ ?_
  · simp [Weak, TW]
  · simp
  rintro k ⟨t, c⟩ hk hs hi
  try simp only at hi
  refine AWp.seq ?_
  -- region 3
  refine AWp.rseq E_ok [0, 2, 3, 4, 8] fun K hK => ?_
  simp
  try simp (disch := omega) only [wrap_i64]
  repeat refine ⟨by first | omega | assumption | (simp only [maxLen]; omega) | (intros; omega) | decide, ?_⟩
  refine hK _ ?_
  clear hK K
  refine AWp.cond rfl (fun h8 => ?_) (fun h8 => ?_)
  · try simp at h8
    obtain ⟨x, hx, hxx, hd⟩ := at_indexG (l := s) h8
    rw [hd] at hs
    have hdw := dW_wrap x
    have hdr := dW_rng x
    have e4 : ((k : Int)).tmod 2 = (k : Int) % 2 := Int.tmod_eq_emod_of_nonneg (by omega)
    obtain ⟨z, hz⟩ : ∃ z, (if t = true then 3 * dW x else dW x) = z := ⟨_, rfl⟩
    have hzr : 0 ≤ z ∧ z ≤ 765 := by rw [← hz]; split <;> omega
    have hmul : dW x * (1 + 2 * ((k : Int) % 2)) = z := by rw [← hz, hi.2.2]; rcases (show (k : Int) % 2 = 0 ∨ (k : Int) % 2 = 1 by omega) with h | h <;> rw [h] <;> simp <;> omega
    rw [altF, hz] at hs
    refine AWp.skip ?_
    repeat first | refine thenN ?_ | refine thenX ?_ | refine thenR ?_ | refine blockN ?_ | refine blockR ?_ | refine blockX ?_ | refine blockM rfl ?_
    refine AWp.seq ?_
    refine AWp.block ?_
    -- region 5
    refine AWp.rend E_ok [0, 2, 3, 4, 8] fun K hK => ?_
    simp [h8, hdw, e4, hmul, hx, hxx]
    try simp (disch := omega) only [wrap_i64]
    repeat refine ⟨by first | omega | assumption | (simp only [maxLen]; omega) | (intros; omega) | decide, ?_⟩
    refine hK _ ?_
    clear hK K
    repeat first | refine thenN ?_ | refine thenX ?_ | refine thenR ?_ | refine blockN ?_ | refine blockR ?_ | refine blockX ?_ | refine blockM rfl ?_
    -- region 4
    refine AWp.rend E_ok [0, 2, 3, 4, 8] fun K hK => ?_
    simp [h8, hdw, e4, hmul, hx, hxx]
    try simp (disch := omega) only [wrap_i64]
    repeat refine ⟨by first | omega | assumption | (simp only [maxLen]; omega) | (intros; omega) | decide, ?_⟩
    refine hK _ ?_
    clear hK K
    repeat first | refine thenN ?_ | refine thenX ?_ | refine thenR ?_ | refine blockN ?_ | refine blockR ?_ | refine blockX ?_ | refine blockM rfl ?_
    have hw : IntKind.i64.wrap ((k : Int) + 1) = (k : Int) + 1 := by rw [wrap_i64] <;> omega
    skip
    refine ⟨_, h8, hs, ?_, ?_⟩
    · exact ⟨by omega, by omega, by rw [hi.2.2, Bool.eq_iff_iff]; simp; omega⟩
    · simp [Weak, TW, hw] <;> omega
  · try simp at h8
    obtain rfl : k = s.length := by omega
    simp only [List.drop_length, altF] at hs
    refine AWp.exit ?_
    repeat first | refine thenN ?_ | refine thenX ?_ | refine thenR ?_ | refine blockN ?_ | refine blockR ?_ | refine blockX ?_ | refine blockM rfl ?_
    -- region 6
    refine AWp.rseq E_ok [0, 2, 3, 4, 8] fun K hK => ?_
    simp [h8]
    try simp (disch := omega) only [wrap_i64]
    repeat refine ⟨by first | omega | assumption | (simp only [maxLen]; omega) | (intros; omega) | decide, ?_⟩
    refine hK _ ?_
    clear hK K
    refine AWp.ret ?_
    repeat first | refine thenN ?_ | refine thenX ?_ | refine thenR ?_ | refine blockN ?_ | refine blockR ?_ | refine blockX ?_ | refine blockM rfl ?_
    simp [RetOk, RV, altR, ← hs]
end Go.Proofs.YtjljjnipjhbeaaaGreatDoor

set_option maxRecDepth 100000
set_option linter.unusedSimpArgs false
set_option linter.unusedVariables false
namespace Go.Proofs.YtjljjnipjhbeaaaGreatDoor
open Go Ab Pl
theorem barcode_Isbn (s : List UInt8) (hl : s.length ≤ 2000) : ACalls E.P 19 [.str s] (.tup [.str (isbR s).1, .int .i64 (isbR s).2]) := by
  refine ACalls.intro E_ok Tryz.func19 rfl rfl Tryz.ntmps19 Tryz.results19 (Nat.le_of_ble_eq_true rfl) fun hok base S0 w0 => ?_
  have hrl := rmvR_len s
  obtain ⟨u, hu⟩ : ∃ u, rmvR s = u := ⟨_, rfl⟩
  have hbt : isbR s = isbT u := by unfold isbR; rw [hu]
  rw [hu] at hrl
  -- region 0
  refine AWp.rseq E_ok [0, 2, 3, 4, 5, 11, 12, 20, 23, 35, 49, 53] fun K hK => ?_
  simp
  try simp (disch := omega) only [wrap_i64]
  repeat refine ⟨by first | omega | assumption | (simp only [maxLen]; omega) | (intros; omega) | decide, ?_⟩
  refine hK _ ?_
  clear hK K
  -- region 1
  refine AWp.seq ?_
  refine isbn_reg s (by omega) (by decide) rfl rfl ?_
  rw [hu]
  show AWp _ _ _ _ _ _ _ _
  refine AWp.seq ?_
  -- region 2
  refine AWp.rseq E_ok [0, 2, 3, 4, 5, 11, 12, 20, 23, 35, 49, 53] fun K hK => ?_
  simp
  try simp (disch := omega) only [wrap_i64]
  repeat refine ⟨by first | omega | assumption | (simp only [maxLen]; omega) | (intros; omega) | decide, ?_⟩
  refine hK _ ?_
  clear hK K
  refine AWp.block ?_
  -- region 3
  refine AWp.rseq E_ok [0, 2, 3, 4, 5, 11, 12, 20, 23, 35, 49, 53] fun K hK => ?_
  simp
  try simp (disch := omega) only [wrap_i64]
  repeat refine ⟨by first | omega | assumption | (simp only [maxLen]; omega) | (intros; omega) | decide, ?_⟩
  refine hK _ ?_
  clear hK K
  refine AWp.cond rfl (fun h12 => ?_) (fun h12 => ?_)
  · try simp at h12
    have hne : u ≠ [] := fun e => by subst e; simp at h12
    rcases Bool.eq_false_or_eq_true (endB u) with hE | hE
    · skip
      have hw : wtF 0 u = some (wgtR u) := by rw [wt_end u 0 hne, if_pos hE]; rfl
      have hnn := wgt_nn hE
      have t11 : (wgtR u).tmod 11 = wgtR u % 11 := Int.tmod_eq_emod_of_nonneg hnn
      -- region 4
      refine AWp.rseq E_ok [0, 2, 3, 4, 5, 11, 12, 20, 23, 35, 49, 53] fun K hK => ?_
      simp [hw, t11]
      try simp (disch := omega) only [wrap_i64]
      repeat refine ⟨by first | omega | assumption | (simp only [maxLen]; omega) | (intros; omega) | decide, ?_⟩
      refine meet.of (barcode_weighted _ (by omega)) ?_
      simp [hw, t11]
      try simp (disch := omega) only [wrap_i64]
      repeat refine ⟨by first | omega | assumption | (simp only [maxLen]; omega) | (intros; omega) | decide, ?_⟩
      refine hK _ ?_
      clear hK K
      refine AWp.seq ?_
      -- region 5
      refine AWp.rseq E_ok [0, 2, 3, 4, 5, 11, 12, 20, 23, 35, 49, 53] fun K hK => ?_
      simp [hw, t11]
      try simp (disch := omega) only [wrap_i64]
      repeat refine ⟨by first | omega | assumption | (simp only [maxLen]; omega) | (intros; omega) | decide, ?_⟩
      refine hK _ ?_
      clear hK K
      refine AWp.cond rfl (fun h20 => ?_) (fun h20 => ?_)
      · exact absurd h20 (by simp)
      · try simp at h20
        refine AWp.skip ?_
        repeat first | refine thenN ?_ | refine thenX ?_ | refine thenR ?_ | refine blockN ?_ | refine blockR ?_ | refine blockX ?_ | refine blockM rfl ?_
        refine AWp.seq ?_
        -- region 7
        refine AWp.rseq E_ok [0, 2, 3, 4, 5, 11, 12, 20, 23, 35, 49, 53] fun K hK => ?_
        simp [hw, t11]
        try simp (disch := omega) only [wrap_i64]
        repeat refine ⟨by first | omega | assumption | (simp only [maxLen]; omega) | (intros; omega) | decide, ?_⟩
        refine hK _ ?_
        clear hK K
        refine AWp.cond rfl (fun h23 => ?_) (fun h23 => ?_)
        · try simp at h23
          have hb : isbR s = ([], 5) := by rw [hbt]; unfold isbT; rw [if_pos (by omega), if_neg (by rw [hE]; decide), if_pos (by simpa using h23)]
          -- region 8
          refine AWp.rseq E_ok [0, 2, 3, 4, 5, 11, 12, 20, 23, 35, 49, 53] fun K hK => ?_
          simp [hw, t11]
          try simp (disch := omega) only [wrap_i64]
          repeat refine ⟨by first | omega | assumption | (simp only [maxLen]; omega) | (intros; omega) | decide, ?_⟩
          refine hK _ ?_
          clear hK K
          refine AWp.ret ?_
          repeat first | refine thenN ?_ | refine thenX ?_ | refine thenR ?_ | refine blockN ?_ | refine blockR ?_ | refine blockX ?_ | refine blockM rfl ?_
          simp [RetOk, RV, RVs, hb, p978]
        · try simp at h23
          have h10 : u.length = 10 := by omega
          have hb : isbR s = (p978 ++ u.take 9 ++ [digC ((10 - altR (p978 ++ u.take 9) % 10) % 10)], 0) := by rw [hbt, isbT_10 h10 hE, if_neg (by simpa using h23)]
          have han := altF_rng (p978 ++ u.take 9) false
          have ha0 : 0 ≤ altR (p978 ++ u.take 9) := han.1
          have ha1 : altR (p978 ++ u.take 9) ≤ 765 * 12 := by have := han.2; rw [show (p978 ++ u.take 9).length = 12 by simp [p978, h10]] at this; unfold altR; omega
          have t10 : (altR (p978 ++ u.take 9)).tmod 10 = altR (p978 ++ u.take 9) % 10 := Int.tmod_eq_emod_of_nonneg ha0
          have t12 : (IntKind.i64.wrap (10 - altR (p978 ++ u.take 9) % 10)).tmod 10 = (10 - altR (p978 ++ u.take 9) % 10) % 10 := by rw [wrap_i64 (by omega) (by omega)]; exact Int.tmod_eq_emod_of_nonneg (by omega)
          have hit : Go.Lib.itoa (-(altR (p978 ++ u.take 9) % 10) % 10) = [digC (-(altR (p978 ++ u.take 9) % 10) % 10)] := itoa_small (by omega) (by omega)
          refine AWp.skip ?_
          repeat first | refine thenN ?_ | refine thenX ?_ | refine thenR ?_ | refine blockN ?_ | refine blockR ?_ | refine blockX ?_ | refine blockM rfl ?_
          -- region 9
          refine AWp.rseq E_ok [0, 2, 3, 4, 5, 11, 12, 20, 23, 35, 49, 53] fun K hK => ?_
          simp [hw, t11, t10, t12, hit]
          try simp (disch := omega) only [wrap_i64]
          repeat refine ⟨by first | omega | assumption | (simp only [maxLen]; omega) | (intros; omega) | decide, ?_⟩
          refine hK _ ?_
          clear hK K
          -- region 10
          refine AWp.rseq E_ok [0, 2, 3, 4, 5, 11, 12, 20, 23, 35, 49, 53] fun K hK => ?_
          simp [hw, t11, t10, t12, hit]
          try simp (disch := omega) only [wrap_i64]
          repeat refine ⟨by first | omega | assumption | (simp only [maxLen]; omega) | (intros; omega) | decide, ?_⟩
          refine meet.of (barcode_alternating (p978 ++ u.take 9) (by simp [p978]; omega)) ?_
          simp [hw, t11, t10, t12, hit]
          try simp (disch := omega) only [wrap_i64]
          repeat refine ⟨by first | omega | assumption | (simp only [maxLen]; omega) | (intros; omega) | decide, ?_⟩
          refine meet.of (strconv_Itoa (-(altR (p978 ++ u.take 9) % 10) % 10) (by omega) (by omega)) ?_
          simp [hw, t11, t10, t12, hit]
          try simp (disch := omega) only [wrap_i64]
          repeat refine ⟨by first | omega | assumption | (simp only [maxLen]; omega) | (intros; omega) | decide, ?_⟩
          refine hK _ ?_
          clear hK K
          refine AWp.ret ?_
          repeat first | refine thenN ?_ | refine thenX ?_ | refine thenR ?_ | refine blockN ?_ | refine blockR ?_ | refine blockX ?_ | refine blockM rfl ?_
          simp [RetOk, RV, RVs, hb, p978]
    · skip
      have hw : wtF 0 u = none := by rw [wt_end u 0 hne, if_neg (by rw [hE]; decide)]
      -- region 4
      refine AWp.rseq E_ok [0, 2, 3, 4, 5, 11, 12, 20, 23, 35, 49, 53] fun K hK => ?_
      simp [hw]
      try simp (disch := omega) only [wrap_i64]
      repeat refine ⟨by first | omega | assumption | (simp only [maxLen]; omega) | (intros; omega) | decide, ?_⟩
      refine meet.of (barcode_weighted _ (by omega)) ?_
      simp [hw]
      try simp (disch := omega) only [wrap_i64]
      repeat refine ⟨by first | omega | assumption | (simp only [maxLen]; omega) | (intros; omega) | decide, ?_⟩
      refine hK _ ?_
      clear hK K
      refine AWp.seq ?_
      -- region 5
      refine AWp.rseq E_ok [0, 2, 3, 4, 5, 11, 12, 20, 23, 35, 49, 53] fun K hK => ?_
      simp [hw]
      try simp (disch := omega) only [wrap_i64]
      repeat refine ⟨by first | omega | assumption | (simp only [maxLen]; omega) | (intros; omega) | decide, ?_⟩
      refine hK _ ?_
      clear hK K
      refine AWp.cond rfl (fun h20 => ?_) (fun h20 => ?_)
      · try simp at h20
        have hb : isbR s = ([], 3) := by rw [hbt]; unfold isbT; rw [if_pos (by omega), if_pos hE]
        -- region 6
        refine AWp.rseq E_ok [0, 2, 3, 4, 5, 11, 12, 20, 23, 35, 49, 53] fun K hK => ?_
        simp [hw]
        try simp (disch := omega) only [wrap_i64]
        repeat refine ⟨by first | omega | assumption | (simp only [maxLen]; omega) | (intros; omega) | decide, ?_⟩
        refine hK _ ?_
        clear hK K
        refine AWp.ret ?_
        repeat first | refine thenN ?_ | refine thenX ?_ | refine thenR ?_ | refine blockN ?_ | refine blockR ?_ | refine blockX ?_ | refine blockM rfl ?_
        simp [RetOk, RV, RVs, hb, p978]
      · exact absurd h20 (by simp)
  · try simp at h12
    -- region 11
    refine AWp.rseq E_ok [0, 2, 3, 4, 5, 11, 12, 20, 23, 35, 49, 53] fun K hK => ?_
    simp
    try simp (disch := omega) only [wrap_i64]
    repeat refine ⟨by first | omega | assumption | (simp only [maxLen]; omega) | (intros; omega) | decide, ?_⟩
    refine hK _ ?_
    clear hK K
    refine AWp.cond rfl (fun h35 => ?_) (fun h35 => ?_)
    · try simp at h35
      have h13 : u.length = 13 := by omega
      refine AWp.seq ?_
      -- region 12
      refine AWp.rseq E_ok [0, 2, 3, 4, 5, 11, 12, 20, 23, 35, 49, 53] fun K hK => ?_
      simp
      try simp (disch := omega) only [wrap_i64]
      repeat refine ⟨by first | omega | assumption | (simp only [maxLen]; omega) | (intros; omega) | decide, ?_⟩
      refine meet.of (barcode_digits u) ?_
      simp
      try simp (disch := omega) only [wrap_i64]
      repeat refine ⟨by first | omega | assumption | (simp only [maxLen]; omega) | (intros; omega) | decide, ?_⟩
      refine hK _ ?_
      clear hK K
      refine AWp.cond rfl (fun h49 => ?_) (fun h49 => ?_)
      · try simp at h49
        have hb : isbR s = ([], 3) := by rw [hbt]; exact isbT_no (fun _ ha => h49.elim (fun ⟨x, hx, hd⟩ => by rw [ha x hx] at hd; cases hd) (fun h => h)) (.inl (by omega))
        -- region 13
        refine AWp.rseq E_ok [0, 2, 3, 4, 5, 11, 12, 20, 23, 35, 49, 53] fun K hK => ?_
        simp
        try simp (disch := omega) only [wrap_i64]
        repeat refine ⟨by first | omega | assumption | (simp only [maxLen]; omega) | (intros; omega) | decide, ?_⟩
        refine hK _ ?_
        clear hK K
        refine AWp.ret ?_
        repeat first | refine thenN ?_ | refine thenX ?_ | refine thenR ?_ | refine blockN ?_ | refine blockR ?_ | refine blockX ?_ | refine blockM rfl ?_
        simp [RetOk, RV, RVs, hb, p978]
      · try simp at h49
        have hd13 : u.length = 13 ∧ u.all isDig = true ∧ (u.take 3 = p978 ∨ u.take 3 = p979) := ⟨h13, by simpa using h49.1, by by_cases e : u.take 3 = p978; exact .inl e; exact .inr (h49.2 e)⟩
        have hb0 : isbT u = if ¬ altR u % 10 = 0 then ([], 5) else (u, 0) := isbT_13 hd13
        have hnn := altF_rng u false
        have ha0 : 0 ≤ altR u := hnn.1
        have t10 : (altR u).tmod 10 = altR u % 10 := Int.tmod_eq_emod_of_nonneg ha0
        refine AWp.skip ?_
        repeat first | refine thenN ?_ | refine thenX ?_ | refine thenR ?_ | refine blockN ?_ | refine blockR ?_ | refine blockX ?_ | refine blockM rfl ?_
        refine AWp.seq ?_
        -- region 14
        refine AWp.rseq E_ok [0, 2, 3, 4, 5, 11, 12, 20, 23, 35, 49, 53] fun K hK => ?_
        simp [t10]
        try simp (disch := omega) only [wrap_i64]
        repeat refine ⟨by first | omega | assumption | (simp only [maxLen]; omega) | (intros; omega) | decide, ?_⟩
        refine meet.of (barcode_alternating u (by omega)) ?_
        simp [t10]
        try simp (disch := omega) only [wrap_i64]
        repeat refine ⟨by first | omega | assumption | (simp only [maxLen]; omega) | (intros; omega) | decide, ?_⟩
        refine hK _ ?_
        clear hK K
        refine AWp.cond rfl (fun h53 => ?_) (fun h53 => ?_)
        · try simp at h53
          have hb : isbR s = ([], 5) := by rw [hbt, hb0, if_pos (by first | simpa using h53 | (rw [← t10]; simpa using h53))]
          -- region 15
          refine AWp.rseq E_ok [0, 2, 3, 4, 5, 11, 12, 20, 23, 35, 49, 53] fun K hK => ?_
          simp [t10]
          try simp (disch := omega) only [wrap_i64]
          repeat refine ⟨by first | omega | assumption | (simp only [maxLen]; omega) | (intros; omega) | decide, ?_⟩
          refine hK _ ?_
          clear hK K
          refine AWp.ret ?_
          repeat first | refine thenN ?_ | refine thenX ?_ | refine thenR ?_ | refine blockN ?_ | refine blockR ?_ | refine blockX ?_ | refine blockM rfl ?_
          simp [RetOk, RV, RVs, hb, p978]
        · try simp at h53
          have hb : isbR s = (u, 0) := by rw [hbt, hb0, if_neg (by first | simpa using h53 | (rw [← t10]; simpa using h53))]
          refine AWp.skip ?_
          repeat first | refine thenN ?_ | refine thenX ?_ | refine thenR ?_ | refine blockN ?_ | refine blockR ?_ | refine blockX ?_ | refine blockM rfl ?_
          -- region 16
          refine AWp.rseq E_ok [0, 2, 3, 4, 5, 11, 12, 20, 23, 35, 49, 53] fun K hK => ?_
          simp [t10]
          try simp (disch := omega) only [wrap_i64]
          repeat refine ⟨by first | omega | assumption | (simp only [maxLen]; omega) | (intros; omega) | decide, ?_⟩
          refine hK _ ?_
          clear hK K
          refine AWp.ret ?_
          repeat first | refine thenN ?_ | refine thenX ?_ | refine thenR ?_ | refine blockN ?_ | refine blockR ?_ | refine blockX ?_ | refine blockM rfl ?_
          simp [RetOk, RV, RVs, hb, p978]
    · try simp at h35
      have hb : isbR s = ([], 3) := by rw [hbt]; exact isbT_no (by omega) (.inl (by omega))
      refine AWp.skip ?_
      repeat first | refine thenN ?_ | refine thenX ?_ | refine thenR ?_ | refine blockN ?_ | refine blockR ?_ | refine blockX ?_ | refine blockM rfl ?_
      -- region 17
      refine AWp.rseq E_ok [0, 2, 3, 4, 5, 11, 12, 20, 23, 35, 49, 53] fun K hK => ?_
      simp
      try simp (disch := omega) only [wrap_i64]
      repeat refine ⟨by first | omega | assumption | (simp only [maxLen]; omega) | (intros; omega) | decide, ?_⟩
      refine hK _ ?_
      clear hK K
      refine AWp.ret ?_
      repeat first | refine thenN ?_ | refine thenX ?_ | refine thenR ?_ | refine blockN ?_ | refine blockR ?_ | refine blockX ?_ | refine blockM rfl ?_
      simp [RetOk, RV, RVs, hb, p978]
end Go.Proofs.YtjljjnipjhbeaaaGreatDoor

set_option maxRecDepth 100000
set_option linter.unusedSimpArgs false
set_option linter.unusedVariables false
namespace Go.Proofs.YtjljjnipjhbeaaaGreatDoor
open Go Ab Pl
theorem barcode_Issn (s : List UInt8) (hl : s.length ≤ 2000) : ACalls E.P 21 [.str s] (.tup [.str (issnR s).1, .int .i64 (issnR s).2]) := by
  refine ACalls.intro E_ok Tryz.func21 rfl rfl Tryz.ntmps21 Tryz.results21 (Nat.le_of_ble_eq_true rfl) fun hok base S0 w0 => ?_
  -- region 0
  refine AWp.rseq E_ok [0, 2, 3, 4, 5, 13, 21, 28, 31] fun K hK => ?_
  simp
  repeat refine ⟨by first | omega | assumption | (simp only [maxLen]; omega) | (intros; omega) | decide, ?_⟩
  refine hK _ ?_
  clear hK K
  refine AWp.seq ?_
  rcases Decidable.em (s.length = 9) with hL | hL
  · skip
    have h4l : 4 < s.length := by omega
    obtain ⟨c, hc0⟩ : ∃ b, s[4]? = some b := ⟨s[4], by simp⟩
    have hc1 : s[4]'h4l = c := (List.getElem?_eq_some_iff.1 hc0).2
    have hg4 : s.getD 4 0 = c := by rw [List.getD_eq_getElem?_getD, hc0]; rfl
    -- region 1
    refine AWp.rseq E_ok [0, 2, 3, 4, 5, 13, 21, 28, 31] fun K hK => ?_
    simp [hL, hc0, hc1]
    repeat refine ⟨by first | omega | assumption | (simp only [maxLen]; omega) | (intros; omega) | decide, ?_⟩
    refine hK _ ?_
    clear hK K
    refine AWp.cond rfl (fun h13 => ?_) (fun h13 => ?_)
    · try simp at h13
      have hcc : c = 45 := nat_u8 (y := 45) (by simpa using h13)
      obtain ⟨u, hu⟩ : ∃ u, s.take 4 ++ s.drop 5 = u := ⟨_, rfl⟩
      have hT : issT s = u := by rw [← hu]; exact if_pos ⟨hL, by rw [hg4, hcc]⟩
      have hul : u.length = 8 := by rw [← hu]; simp; omega
      -- region 2
      refine AWp.rendQ E_ok mixed [0, 2, 3, 4, 5, 13, 21, 28, 31] (by kernel_rfl) fun K hK => ?_
      simp [hL, hc0, hc1, hu]
      repeat refine ⟨by first | omega | assumption | (simp only [maxLen]; omega) | (intros; omega) | decide, ?_⟩
      refine hK _ ?_
      clear hK K
      repeat first | refine thenN ?_ | refine thenX ?_ | refine thenR ?_ | refine blockN ?_ | refine blockR ?_ | refine blockX ?_ | refine blockM rfl ?_
      refine AWp.seq ?_
      -- region 3
      refine AWp.rseq E_ok [0, 2, 3, 4, 5, 13, 21, 28, 31] fun K hK => ?_
      simp [hL, hc0, hc1, hu]
      repeat refine ⟨by first | omega | assumption | (simp only [maxLen]; omega) | (intros; omega) | decide, ?_⟩
      refine hK _ ?_
      clear hK K
      refine AWp.cond rfl (fun h21 => ?_) (fun h21 => ?_)
      · try simp at h21
        have hb : issnR s = ([], 3) := by unfold issnR; rw [hT, if_pos (.inl (by omega))]
        -- region 4
        refine AWp.rseq E_ok [0, 2, 3, 4, 5, 13, 21, 28, 31] fun K hK => ?_
        simp [hL, hc0, hc1, hu]
        repeat refine ⟨by first | omega | assumption | (simp only [maxLen]; omega) | (intros; omega) | decide, ?_⟩
        refine hK _ ?_
        clear hK K
        refine AWp.ret ?_
        repeat first | refine thenN ?_ | refine thenX ?_ | refine thenR ?_ | refine blockN ?_ | refine blockR ?_ | refine blockX ?_ | refine blockM rfl ?_
        simp [RetOk, RV, RVs, hb]
      · try simp at h21
        have hne : u ≠ [] := fun e => by subst e; simp at h21
        refine AWp.skip ?_
        repeat first | refine thenN ?_ | refine thenX ?_ | refine thenR ?_ | refine blockN ?_ | refine blockR ?_ | refine blockX ?_ | refine blockM rfl ?_
        rcases Bool.eq_false_or_eq_true (endB u) with hE | hE
        · skip
          have hw : wtF 0 u = some (wgtR u) := by rw [wt_end u 0 hne, if_pos hE]; rfl
          have hnn := wgt_nn hE
          have t11 : (wgtR u).tmod 11 = wgtR u % 11 := Int.tmod_eq_emod_of_nonneg hnn
          -- region 5
          refine AWp.rseq E_ok [0, 2, 3, 4, 5, 13, 21, 28, 31] fun K hK => ?_
          simp [hL, hc0, hc1, hu, hw, t11]
          repeat refine ⟨by first | omega | assumption | (simp only [maxLen]; omega) | (intros; omega) | decide, ?_⟩
          refine meet.of (barcode_weighted u (by omega)) ?_
          simp [hL, hc0, hc1, hu, hw, t11]
          repeat refine ⟨by first | omega | assumption | (simp only [maxLen]; omega) | (intros; omega) | decide, ?_⟩
          refine hK _ ?_
          clear hK K
          refine AWp.seq ?_
          -- region 6
          refine AWp.rseq E_ok [0, 2, 3, 4, 5, 13, 21, 28, 31] fun K hK => ?_
          simp [hL, hc0, hc1, hu, hw, t11]
          repeat refine ⟨by first | omega | assumption | (simp only [maxLen]; omega) | (intros; omega) | decide, ?_⟩
          refine hK _ ?_
          clear hK K
          refine AWp.cond rfl (fun h28 => ?_) (fun h28 => ?_)
          · exact absurd h28 (by simp)
          · try simp at h28
            refine AWp.skip ?_
            repeat first | refine thenN ?_ | refine thenX ?_ | refine thenR ?_ | refine blockN ?_ | refine blockR ?_ | refine blockX ?_ | refine blockM rfl ?_
            refine AWp.seq ?_
            -- region 8
            refine AWp.rseq E_ok [0, 2, 3, 4, 5, 13, 21, 28, 31] fun K hK => ?_
            simp [hL, hc0, hc1, hu, hw, t11]
            repeat refine ⟨by first | omega | assumption | (simp only [maxLen]; omega) | (intros; omega) | decide, ?_⟩
            refine hK _ ?_
            clear hK K
            refine AWp.cond rfl (fun h31 => ?_) (fun h31 => ?_)
            · try simp at h31
              have hb : issnR s = ([], 5) := by unfold issnR; rw [hT, if_neg (by rw [hE]; rintro (h | h); exact h (by omega); cases h), if_pos (by simpa using h31)]
              -- region 9
              refine AWp.rseq E_ok [0, 2, 3, 4, 5, 13, 21, 28, 31] fun K hK => ?_
              simp [hL, hc0, hc1, hu, hw, t11]
              repeat refine ⟨by first | omega | assumption | (simp only [maxLen]; omega) | (intros; omega) | decide, ?_⟩
              refine hK _ ?_
              clear hK K
              refine AWp.ret ?_
              repeat first | refine thenN ?_ | refine thenX ?_ | refine thenR ?_ | refine blockN ?_ | refine blockR ?_ | refine blockX ?_ | refine blockM rfl ?_
              simp [RetOk, RV, RVs, hb]
            · try simp at h31
              have hb : issnR s = (u.take 4 ++ [45] ++ u.drop 4, 0) := by unfold issnR; rw [hT, if_neg (by rw [hE]; rintro (h | h); exact h (by omega); cases h), if_neg (by simpa using h31)]
              refine AWp.skip ?_
              repeat first | refine thenN ?_ | refine thenX ?_ | refine thenR ?_ | refine blockN ?_ | refine blockR ?_ | refine blockX ?_ | refine blockM rfl ?_
              -- region 10
              refine AWp.rseqQ E_ok mixed [0, 2, 3, 4, 5, 13, 21, 28, 31] (by kernel_rfl) fun K hK => ?_
              simp [hL, hc0, hc1, hu, hw, t11]
              repeat refine ⟨by first | omega | assumption | (simp only [maxLen]; omega) | (intros; omega) | decide, ?_⟩
              refine hK _ ?_
              clear hK K
              refine AWp.ret ?_
              repeat first | refine thenN ?_ | refine thenX ?_ | refine thenR ?_ | refine blockN ?_ | refine blockR ?_ | refine blockX ?_ | refine blockM rfl ?_
              simp [RetOk, RV, RVs, hb]
        · skip
          have hw : wtF 0 u = none := by rw [wt_end u 0 hne, if_neg (by rw [hE]; decide)]
          -- region 5
          refine AWp.rseq E_ok [0, 2, 3, 4, 5, 13, 21, 28, 31] fun K hK => ?_
          simp [hL, hc0, hc1, hu, hw]
          repeat refine ⟨by first | omega | assumption | (simp only [maxLen]; omega) | (intros; omega) | decide, ?_⟩
          refine meet.of (barcode_weighted u (by omega)) ?_
          simp [hL, hc0, hc1, hu, hw]
          repeat refine ⟨by first | omega | assumption | (simp only [maxLen]; omega) | (intros; omega) | decide, ?_⟩
          refine hK _ ?_
          clear hK K
          refine AWp.seq ?_
          -- region 6
          refine AWp.rseq E_ok [0, 2, 3, 4, 5, 13, 21, 28, 31] fun K hK => ?_
          simp [hL, hc0, hc1, hu, hw]
          repeat refine ⟨by first | omega | assumption | (simp only [maxLen]; omega) | (intros; omega) | decide, ?_⟩
          refine hK _ ?_
          clear hK K
          refine AWp.cond rfl (fun h28 => ?_) (fun h28 => ?_)
          · try simp at h28
            have hb : issnR s = ([], 3) := by unfold issnR; rw [hT, if_pos (.inr hE)]
            -- region 7
            refine AWp.rseq E_ok [0, 2, 3, 4, 5, 13, 21, 28, 31] fun K hK => ?_
            simp [hL, hc0, hc1, hu, hw]
            repeat refine ⟨by first | omega | assumption | (simp only [maxLen]; omega) | (intros; omega) | decide, ?_⟩
            refine hK _ ?_
            clear hK K
            refine AWp.ret ?_
            repeat first | refine thenN ?_ | refine thenX ?_ | refine thenR ?_ | refine blockN ?_ | refine blockR ?_ | refine blockX ?_ | refine blockM rfl ?_
            simp [RetOk, RV, RVs, hb]
          · exact absurd h28 (by simp)
    · try simp at h13
      obtain ⟨u, hu⟩ : ∃ u, s = u := ⟨_, rfl⟩
      have hT : issT s = u := by first | exact (if_neg (fun h => hL h.1)).trans hu | exact (if_neg (fun h => by have h2 := h.2; rw [hg4] at h2; subst h2; simp at h13)).trans hu
      have hul : u.length ≤ 2000 := by rw [← hu]; exact hl
      refine AWp.skip ?_
      repeat first | refine thenN ?_ | refine thenX ?_ | refine thenR ?_ | refine blockN ?_ | refine blockR ?_ | refine blockX ?_ | refine blockM rfl ?_
      refine AWp.seq ?_
      -- region 3
      refine AWp.rseq E_ok [0, 2, 3, 4, 5, 13, 21, 28, 31] fun K hK => ?_
      simp [hL, hc0, hc1, hu]
      repeat refine ⟨by first | omega | assumption | (simp only [maxLen]; omega) | (intros; omega) | decide, ?_⟩
      refine hK _ ?_
      clear hK K
      refine AWp.cond rfl (fun h21 => ?_) (fun h21 => ?_)
      · try simp at h21
        have hb : issnR s = ([], 3) := by unfold issnR; rw [hT, if_pos (.inl (by omega))]
        -- region 4
        refine AWp.rseq E_ok [0, 2, 3, 4, 5, 13, 21, 28, 31] fun K hK => ?_
        simp [hL, hc0, hc1, hu]
        repeat refine ⟨by first | omega | assumption | (simp only [maxLen]; omega) | (intros; omega) | decide, ?_⟩
        refine hK _ ?_
        clear hK K
        refine AWp.ret ?_
        repeat first | refine thenN ?_ | refine thenX ?_ | refine thenR ?_ | refine blockN ?_ | refine blockR ?_ | refine blockX ?_ | refine blockM rfl ?_
        simp [RetOk, RV, RVs, hb]
      · try simp at h21
        have hne : u ≠ [] := fun e => by subst e; simp at h21
        refine AWp.skip ?_
        repeat first | refine thenN ?_ | refine thenX ?_ | refine thenR ?_ | refine blockN ?_ | refine blockR ?_ | refine blockX ?_ | refine blockM rfl ?_
        rcases Bool.eq_false_or_eq_true (endB u) with hE | hE
        · skip
          have hw : wtF 0 u = some (wgtR u) := by rw [wt_end u 0 hne, if_pos hE]; rfl
          have hnn := wgt_nn hE
          have t11 : (wgtR u).tmod 11 = wgtR u % 11 := Int.tmod_eq_emod_of_nonneg hnn
          -- region 5
          refine AWp.rseq E_ok [0, 2, 3, 4, 5, 13, 21, 28, 31] fun K hK => ?_
          simp [hL, hc0, hc1, hu, hw, t11]
          repeat refine ⟨by first | omega | assumption | (simp only [maxLen]; omega) | (intros; omega) | decide, ?_⟩
          refine meet.of (barcode_weighted u (by omega)) ?_
          simp [hL, hc0, hc1, hu, hw, t11]
          repeat refine ⟨by first | omega | assumption | (simp only [maxLen]; omega) | (intros; omega) | decide, ?_⟩
          refine hK _ ?_
          clear hK K
          refine AWp.seq ?_
          -- region 6
          refine AWp.rseq E_ok [0, 2, 3, 4, 5, 13, 21, 28, 31] fun K hK => ?_
          simp [hL, hc0, hc1, hu, hw, t11]
          repeat refine ⟨by first | omega | assumption | (simp only [maxLen]; omega) | (intros; omega) | decide, ?_⟩
          refine hK _ ?_
          clear hK K
          refine AWp.cond rfl (fun h28 => ?_) (fun h28 => ?_)
          · exact absurd h28 (by simp)
          · try simp at h28
            refine AWp.skip ?_
            repeat first | refine thenN ?_ | refine thenX ?_ | refine thenR ?_ | refine blockN ?_ | refine blockR ?_ | refine blockX ?_ | refine blockM rfl ?_
            refine AWp.seq ?_
            -- region 8
            refine AWp.rseq E_ok [0, 2, 3, 4, 5, 13, 21, 28, 31] fun K hK => ?_
            simp [hL, hc0, hc1, hu, hw, t11]
            repeat refine ⟨by first | omega | assumption | (simp only [maxLen]; omega) | (intros; omega) | decide, ?_⟩
            refine hK _ ?_
            clear hK K
            refine AWp.cond rfl (fun h31 => ?_) (fun h31 => ?_)
            · try simp at h31
              have hb : issnR s = ([], 5) := by unfold issnR; rw [hT, if_neg (by rw [hE]; rintro (h | h); exact h (by omega); cases h), if_pos (by simpa using h31)]
              -- region 9
              refine AWp.rseq E_ok [0, 2, 3, 4, 5, 13, 21, 28, 31] fun K hK => ?_
              simp [hL, hc0, hc1, hu, hw, t11]
              repeat refine ⟨by first | omega | assumption | (simp only [maxLen]; omega) | (intros; omega) | decide, ?_⟩
              refine hK _ ?_
              clear hK K
              refine AWp.ret ?_
              repeat first | refine thenN ?_ | refine thenX ?_ | refine thenR ?_ | refine blockN ?_ | refine blockR ?_ | refine blockX ?_ | refine blockM rfl ?_
              simp [RetOk, RV, RVs, hb]
            · try simp at h31
              have hb : issnR s = (u.take 4 ++ [45] ++ u.drop 4, 0) := by unfold issnR; rw [hT, if_neg (by rw [hE]; rintro (h | h); exact h (by omega); cases h), if_neg (by simpa using h31)]
              refine AWp.skip ?_
              repeat first | refine thenN ?_ | refine thenX ?_ | refine thenR ?_ | refine blockN ?_ | refine blockR ?_ | refine blockX ?_ | refine blockM rfl ?_
              -- region 10
              refine AWp.rseqQ E_ok mixed [0, 2, 3, 4, 5, 13, 21, 28, 31] (by kernel_rfl) fun K hK => ?_
              simp [hL, hc0, hc1, hu, hw, t11]
              repeat refine ⟨by first | omega | assumption | (simp only [maxLen]; omega) | (intros; omega) | decide, ?_⟩
              refine hK _ ?_
              clear hK K
              refine AWp.ret ?_
              repeat first | refine thenN ?_ | refine thenX ?_ | refine thenR ?_ | refine blockN ?_ | refine blockR ?_ | refine blockX ?_ | refine blockM rfl ?_
              simp [RetOk, RV, RVs, hb]
        · skip
          have hw : wtF 0 u = none := by rw [wt_end u 0 hne, if_neg (by rw [hE]; decide)]
          -- region 5
          refine AWp.rseq E_ok [0, 2, 3, 4, 5, 13, 21, 28, 31] fun K hK => ?_
          simp [hL, hc0, hc1, hu, hw]
          repeat refine ⟨by first | omega | assumption | (simp only [maxLen]; omega) | (intros; omega) | decide, ?_⟩
          refine meet.of (barcode_weighted u (by omega)) ?_
          simp [hL, hc0, hc1, hu, hw]
          repeat refine ⟨by first | omega | assumption | (simp only [maxLen]; omega) | (intros; omega) | decide, ?_⟩
          refine hK _ ?_
          clear hK K
          refine AWp.seq ?_
          -- region 6
          refine AWp.rseq E_ok [0, 2, 3, 4, 5, 13, 21, 28, 31] fun K hK => ?_
          simp [hL, hc0, hc1, hu, hw]
          repeat refine ⟨by first | omega | assumption | (simp only [maxLen]; omega) | (intros; omega) | decide, ?_⟩
          refine hK _ ?_
          clear hK K
          refine AWp.cond rfl (fun h28 => ?_) (fun h28 => ?_)
          · try simp at h28
            have hb : issnR s = ([], 3) := by unfold issnR; rw [hT, if_pos (.inr hE)]
            -- region 7
            refine AWp.rseq E_ok [0, 2, 3, 4, 5, 13, 21, 28, 31] fun K hK => ?_
            simp [hL, hc0, hc1, hu, hw]
            repeat refine ⟨by first | omega | assumption | (simp only [maxLen]; omega) | (intros; omega) | decide, ?_⟩
            refine hK _ ?_
            clear hK K
            refine AWp.ret ?_
            repeat first | refine thenN ?_ | refine thenX ?_ | refine thenR ?_ | refine blockN ?_ | refine blockR ?_ | refine blockX ?_ | refine blockM rfl ?_
            simp [RetOk, RV, RVs, hb]
          · exact absurd h28 (by simp)
  · skip
    have hLn : ((s.length : Int) == 9) = false := by simp; omega
    -- region 1
    refine AWp.rseq E_ok [0, 2, 3, 4, 5, 13, 21, 28, 31] fun K hK => ?_
    simp [hLn]
    repeat refine ⟨by first | omega | assumption | (simp only [maxLen]; omega) | (intros; omega) | decide, ?_⟩
    refine hK _ ?_
    clear hK K
    refine AWp.cond rfl (fun h13 => ?_) (fun h13 => ?_)
    · exact absurd h13 (by simp)
    · try simp at h13
      obtain ⟨u, hu⟩ : ∃ u, s = u := ⟨_, rfl⟩
      have hT : issT s = u := by first | exact (if_neg (fun h => hL h.1)).trans hu | exact (if_neg (fun h => by have h2 := h.2; rw [hg4] at h2; subst h2; simp at h13)).trans hu
      have hul : u.length ≤ 2000 := by rw [← hu]; exact hl
      refine AWp.skip ?_
      repeat first | refine thenN ?_ | refine thenX ?_ | refine thenR ?_ | refine blockN ?_ | refine blockR ?_ | refine blockX ?_ | refine blockM rfl ?_
      refine AWp.seq ?_
      -- region 3
      refine AWp.rseq E_ok [0, 2, 3, 4, 5, 13, 21, 28, 31] fun K hK => ?_
      simp [hLn, hu]
      repeat refine ⟨by first | omega | assumption | (simp only [maxLen]; omega) | (intros; omega) | decide, ?_⟩
      refine hK _ ?_
      clear hK K
      refine AWp.cond rfl (fun h21 => ?_) (fun h21 => ?_)
      · try simp at h21
        have hb : issnR s = ([], 3) := by unfold issnR; rw [hT, if_pos (.inl (by omega))]
        -- region 4
        refine AWp.rseq E_ok [0, 2, 3, 4, 5, 13, 21, 28, 31] fun K hK => ?_
        simp [hLn, hu]
        repeat refine ⟨by first | omega | assumption | (simp only [maxLen]; omega) | (intros; omega) | decide, ?_⟩
        refine hK _ ?_
        clear hK K
        refine AWp.ret ?_
        repeat first | refine thenN ?_ | refine thenX ?_ | refine thenR ?_ | refine blockN ?_ | refine blockR ?_ | refine blockX ?_ | refine blockM rfl ?_
        simp [RetOk, RV, RVs, hb]
      · try simp at h21
        have hne : u ≠ [] := fun e => by subst e; simp at h21
        refine AWp.skip ?_
        repeat first | refine thenN ?_ | refine thenX ?_ | refine thenR ?_ | refine blockN ?_ | refine blockR ?_ | refine blockX ?_ | refine blockM rfl ?_
        rcases Bool.eq_false_or_eq_true (endB u) with hE | hE
        · skip
          have hw : wtF 0 u = some (wgtR u) := by rw [wt_end u 0 hne, if_pos hE]; rfl
          have hnn := wgt_nn hE
          have t11 : (wgtR u).tmod 11 = wgtR u % 11 := Int.tmod_eq_emod_of_nonneg hnn
          -- region 5
          refine AWp.rseq E_ok [0, 2, 3, 4, 5, 13, 21, 28, 31] fun K hK => ?_
          simp [hLn, hu, hw, t11]
          repeat refine ⟨by first | omega | assumption | (simp only [maxLen]; omega) | (intros; omega) | decide, ?_⟩
          refine meet.of (barcode_weighted u (by omega)) ?_
          simp [hLn, hu, hw, t11]
          repeat refine ⟨by first | omega | assumption | (simp only [maxLen]; omega) | (intros; omega) | decide, ?_⟩
          refine hK _ ?_
          clear hK K
          refine AWp.seq ?_
          -- region 6
          refine AWp.rseq E_ok [0, 2, 3, 4, 5, 13, 21, 28, 31] fun K hK => ?_
          simp [hLn, hu, hw, t11]
          repeat refine ⟨by first | omega | assumption | (simp only [maxLen]; omega) | (intros; omega) | decide, ?_⟩
          refine hK _ ?_
          clear hK K
          refine AWp.cond rfl (fun h28 => ?_) (fun h28 => ?_)
          · exact absurd h28 (by simp)
          · try simp at h28
            refine AWp.skip ?_
            repeat first | refine thenN ?_ | refine thenX ?_ | refine thenR ?_ | refine blockN ?_ | refine blockR ?_ | refine blockX ?_ | refine blockM rfl ?_
            refine AWp.seq ?_
            -- region 8
            refine AWp.rseq E_ok [0, 2, 3, 4, 5, 13, 21, 28, 31] fun K hK => ?_
            simp [hLn, hu, hw, t11]
            repeat refine ⟨by first | omega | assumption | (simp only [maxLen]; omega) | (intros; omega) | decide, ?_⟩
            refine hK _ ?_
            clear hK K
            refine AWp.cond rfl (fun h31 => ?_) (fun h31 => ?_)
            · try simp at h31
              have hb : issnR s = ([], 5) := by unfold issnR; rw [hT, if_neg (by rw [hE]; rintro (h | h); exact h (by omega); cases h), if_pos (by simpa using h31)]
              -- region 9
              refine AWp.rseq E_ok [0, 2, 3, 4, 5, 13, 21, 28, 31] fun K hK => ?_
              simp [hLn, hu, hw, t11]
              repeat refine ⟨by first | omega | assumption | (simp only [maxLen]; omega) | (intros; omega) | decide, ?_⟩
              refine hK _ ?_
              clear hK K
              refine AWp.ret ?_
              repeat first | refine thenN ?_ | refine thenX ?_ | refine thenR ?_ | refine blockN ?_ | refine blockR ?_ | refine blockX ?_ | refine blockM rfl ?_
              simp [RetOk, RV, RVs, hb]
            · try simp at h31
              have hb : issnR s = (u.take 4 ++ [45] ++ u.drop 4, 0) := by unfold issnR; rw [hT, if_neg (by rw [hE]; rintro (h | h); exact h (by omega); cases h), if_neg (by simpa using h31)]
              refine AWp.skip ?_
              repeat first | refine thenN ?_ | refine thenX ?_ | refine thenR ?_ | refine blockN ?_ | refine blockR ?_ | refine blockX ?_ | refine blockM rfl ?_
              -- region 10
              refine AWp.rseqQ E_ok mixed [0, 2, 3, 4, 5, 13, 21, 28, 31] (by kernel_rfl) fun K hK => ?_
              simp [hLn, hu, hw, t11]
              repeat refine ⟨by first | omega | assumption | (simp only [maxLen]; omega) | (intros; omega) | decide, ?_⟩
              refine hK _ ?_
              clear hK K
              refine AWp.ret ?_
              repeat first | refine thenN ?_ | refine thenX ?_ | refine thenR ?_ | refine blockN ?_ | refine blockR ?_ | refine blockX ?_ | refine blockM rfl ?_
              simp [RetOk, RV, RVs, hb]
        · skip
          have hw : wtF 0 u = none := by rw [wt_end u 0 hne, if_neg (by rw [hE]; decide)]
          -- region 5
          refine AWp.rseq E_ok [0, 2, 3, 4, 5, 13, 21, 28, 31] fun K hK => ?_
          simp [hLn, hu, hw]
          repeat refine ⟨by first | omega | assumption | (simp only [maxLen]; omega) | (intros; omega) | decide, ?_⟩
          refine meet.of (barcode_weighted u (by omega)) ?_
          simp [hLn, hu, hw]
          repeat refine ⟨by first | omega | assumption | (simp only [maxLen]; omega) | (intros; omega) | decide, ?_⟩
          refine hK _ ?_
          clear hK K
          refine AWp.seq ?_
          -- region 6
          refine AWp.rseq E_ok [0, 2, 3, 4, 5, 13, 21, 28, 31] fun K hK => ?_
          simp [hLn, hu, hw]
          repeat refine ⟨by first | omega | assumption | (simp only [maxLen]; omega) | (intros; omega) | decide, ?_⟩
          refine hK _ ?_
          clear hK K
          refine AWp.cond rfl (fun h28 => ?_) (fun h28 => ?_)
          · try simp at h28
            have hb : issnR s = ([], 3) := by unfold issnR; rw [hT, if_pos (.inr hE)]
            -- region 7
            refine AWp.rseq E_ok [0, 2, 3, 4, 5, 13, 21, 28, 31] fun K hK => ?_
            simp [hLn, hu, hw]
            repeat refine ⟨by first | omega | assumption | (simp only [maxLen]; omega) | (intros; omega) | decide, ?_⟩
            refine hK _ ?_
            clear hK K
            refine AWp.ret ?_
            repeat first | refine thenN ?_ | refine thenX ?_ | refine thenR ?_ | refine blockN ?_ | refine blockR ?_ | refine blockX ?_ | refine blockM rfl ?_
            simp [RetOk, RV, RVs, hb]
          · exact absurd h28 (by simp)
end Go.Proofs.YtjljjnipjhbeaaaGreatDoor

set_option maxRecDepth 100000
set_option linter.unusedSimpArgs false
set_option linter.unusedVariables false
namespace Go.Proofs.YtjljjnipjhbeaaaGreatDoor
open Go Ab Pl
theorem law05_alive  : ACalls E.P 12 [] (.d (.bool true)) := by
  refine ACalls.intro E_ok Tryz.func12 rfl rfl Tryz.ntmps12 Tryz.results12 (Nat.le_of_ble_eq_true rfl) fun hok base S0 w0 => ?_
  -- region 0
  refine AWp.rseq E_ok [0, 1, 2, 3, 4, 5, 6, 7, 8, 9, 10, 11, 12, 13, 16, 18, 69] fun K hK => ?_
  simp [w_luh, w_mak, w_par, w_isa, w_isb, w_isn, w_par2, w_isc]
  repeat refine ⟨by first | omega | assumption | (simp only [maxLen]; omega) | (intros; omega) | decide, ?_⟩
  refine hK _ ?_
  clear hK K
  -- region 1
  refine AWp.rseq E_ok [0, 1, 2, 3, 4, 5, 6, 7, 8, 9, 10, 11, 12, 13, 16, 18, 69] fun K hK => ?_
  simp [w_luh, w_mak, w_par, w_isa, w_isb, w_isn, w_par2, w_isc]
  repeat refine ⟨by first | omega | assumption | (simp only [maxLen]; omega) | (intros; omega) | decide, ?_⟩
  refine meet.of (barcode_Luhn _) ?_
  simp [w_luh, w_mak, w_par, w_isa, w_isb, w_isn, w_par2, w_isc]
  repeat refine ⟨by first | omega | assumption | (simp only [maxLen]; omega) | (intros; omega) | decide, ?_⟩
  refine hK _ ?_
  clear hK K
  -- region 2
  refine AWp.rseq E_ok [0, 1, 2, 3, 4, 5, 6, 7, 8, 9, 10, 11, 12, 13, 16, 18, 69] fun K hK => ?_
  simp [w_luh, w_mak, w_par, w_isa, w_isb, w_isn, w_par2, w_isc]
  repeat refine ⟨by first | omega | assumption | (simp only [maxLen]; omega) | (intros; omega) | decide, ?_⟩
  refine meet.of (barcode_Make 2 17) ?_
  simp [w_luh, w_mak, w_par, w_isa, w_isb, w_isn, w_par2, w_isc]
  repeat refine ⟨by first | omega | assumption | (simp only [maxLen]; omega) | (intros; omega) | decide, ?_⟩
  refine hK _ ?_
  clear hK K
  -- region 3
  refine AWp.rseq E_ok [0, 1, 2, 3, 4, 5, 6, 7, 8, 9, 10, 11, 12, 13, 16, 18, 69] fun K hK => ?_
  simp [w_luh, w_mak, w_par, w_isa, w_isb, w_isn, w_par2, w_isc]
  repeat refine ⟨by first | omega | assumption | (simp only [maxLen]; omega) | (intros; omega) | decide, ?_⟩
  refine meet.of (barcode_Parse _) ?_
  simp [w_luh, w_mak, w_par, w_isa, w_isb, w_isn, w_par2, w_isc]
  repeat refine ⟨by first | omega | assumption | (simp only [maxLen]; omega) | (intros; omega) | decide, ?_⟩
  refine hK _ ?_
  clear hK K
  -- region 4
  refine AWp.rseq E_ok [0, 1, 2, 3, 4, 5, 6, 7, 8, 9, 10, 11, 12, 13, 16, 18, 69] fun K hK => ?_
  simp [w_luh, w_mak, w_par, w_isa, w_isb, w_isn, w_par2, w_isc]
  repeat refine ⟨by first | omega | assumption | (simp only [maxLen]; omega) | (intros; omega) | decide, ?_⟩
  refine meet.of (barcode_Isbn _ (by simp)) ?_
  simp [w_luh, w_mak, w_par, w_isa, w_isb, w_isn, w_par2, w_isc]
  repeat refine ⟨by first | omega | assumption | (simp only [maxLen]; omega) | (intros; omega) | decide, ?_⟩
  refine hK _ ?_
  clear hK K
  -- region 5
  refine AWp.rseq E_ok [0, 1, 2, 3, 4, 5, 6, 7, 8, 9, 10, 11, 12, 13, 16, 18, 69] fun K hK => ?_
  simp [w_luh, w_mak, w_par, w_isa, w_isb, w_isn, w_par2, w_isc]
  repeat refine ⟨by first | omega | assumption | (simp only [maxLen]; omega) | (intros; omega) | decide, ?_⟩
  refine meet.of (barcode_Isbn _ (by simp)) ?_
  simp [w_luh, w_mak, w_par, w_isa, w_isb, w_isn, w_par2, w_isc]
  repeat refine ⟨by first | omega | assumption | (simp only [maxLen]; omega) | (intros; omega) | decide, ?_⟩
  refine hK _ ?_
  clear hK K
  -- region 6
  refine AWp.rseq E_ok [0, 1, 2, 3, 4, 5, 6, 7, 8, 9, 10, 11, 12, 13, 16, 18, 69] fun K hK => ?_
  simp [w_luh, w_mak, w_par, w_isa, w_isb, w_isn, w_par2, w_isc]
  repeat refine ⟨by first | omega | assumption | (simp only [maxLen]; omega) | (intros; omega) | decide, ?_⟩
  refine meet.of (barcode_Issn _ (by simp)) ?_
  simp [w_luh, w_mak, w_par, w_isa, w_isb, w_isn, w_par2, w_isc]
  repeat refine ⟨by first | omega | assumption | (simp only [maxLen]; omega) | (intros; omega) | decide, ?_⟩
  refine hK _ ?_
  clear hK K
  refine AWp.seq ?_
  -- region 7
  refine AWp.rseq E_ok [0, 1, 2, 3, 4, 5, 6, 7, 8, 9, 10, 11, 12, 13, 16, 18, 69] fun K hK => ?_
  simp [w_luh, w_mak, w_par, w_isa, w_isb, w_isn, w_par2, w_isc]
  repeat refine ⟨by first | omega | assumption | (simp only [maxLen]; omega) | (intros; omega) | decide, ?_⟩
  refine hK _ ?_
  clear hK K
  refine AWp.cond rfl (fun h69 => ?_) (fun h69 => ?_)
  · exact absurd h69 (by simp)
  · try simp at h69
    refine AWp.skip ?_
    repeat first | refine thenN ?_ | refine thenX ?_ | refine thenR ?_ | refine blockN ?_ | refine blockR ?_ | refine blockX ?_ | refine blockM rfl ?_
    -- region 9
    refine AWp.rseq E_ok [0, 1, 2, 3, 4, 5, 6, 7, 8, 9, 10, 11, 12, 13, 16, 18, 69] fun K hK => ?_
    simp [w_luh, w_mak, w_par, w_isa, w_isb, w_isn, w_par2, w_isc, h69]
    repeat refine ⟨by first | omega | assumption | (simp only [maxLen]; omega) | (intros; omega) | decide, ?_⟩
    refine meet.of (barcode_Parse _) ?_
    simp [w_luh, w_mak, w_par, w_isa, w_isb, w_isn, w_par2, w_isc, h69]
    repeat refine ⟨by first | omega | assumption | (simp only [maxLen]; omega) | (intros; omega) | decide, ?_⟩
    refine hK _ ?_
    clear hK K
    -- region 10
    refine AWp.rseq E_ok [0, 1, 2, 3, 4, 5, 6, 7, 8, 9, 10, 11, 12, 13, 16, 18, 69] fun K hK => ?_
    simp [w_luh, w_mak, w_par, w_isa, w_isb, w_isn, w_par2, w_isc, h69]
    repeat refine ⟨by first | omega | assumption | (simp only [maxLen]; omega) | (intros; omega) | decide, ?_⟩
    refine meet.of (barcode_Isbn _ (by simp)) ?_
    simp [w_luh, w_mak, w_par, w_isa, w_isb, w_isn, w_par2, w_isc, h69]
    repeat refine ⟨by first | omega | assumption | (simp only [maxLen]; omega) | (intros; omega) | decide, ?_⟩
    refine hK _ ?_
    clear hK K
    -- region 11
    refine AWp.rseq E_ok [0, 1, 2, 3, 4, 5, 6, 7, 8, 9, 10, 11, 12, 13, 16, 18, 69] fun K hK => ?_
    simp [w_luh, w_mak, w_par, w_isa, w_isb, w_isn, w_par2, w_isc, h69]
    repeat refine ⟨by first | omega | assumption | (simp only [maxLen]; omega) | (intros; omega) | decide, ?_⟩
    refine hK _ ?_
    clear hK K
    refine AWp.ret ?_
    repeat first | refine thenN ?_ | refine thenX ?_ | refine thenR ?_ | refine blockN ?_ | refine blockR ?_ | refine blockX ?_ | refine blockM rfl ?_
    simp [RetOk, RV]
end Go.Proofs.YtjljjnipjhbeaaaGreatDoor

set_option maxRecDepth 100000
set_option linter.unusedSimpArgs false
set_option linter.unusedVariables false
namespace Pl
end Pl
namespace Go.Proofs.YtjljjnipjhbeaaaGreatDoor
open Go Ab Pl
theorem open_int : Opens Tryz.prog 3 (fun n => [D.int .i64 n]) (fun n => IntKind.min .i64 ≤ n ∧ n ≤ IntKind.max .i64) := Opens.int Tryz.underlying3
theorem openV_int : OpensV Tryz.prog 3 (fun n => D.int .i64 n) (fun n => IntKind.min .i64 ≤ n ∧ n ≤ IntKind.max .i64) := Opens.one open_int (cells_int' Tryz.underlying3)
theorem open_api_Errno : Opens Tryz.prog 23 (fun n => [D.int .i64 n]) (fun n => IntKind.min .i64 ≤ n ∧ n ≤ IntKind.max .i64) := Opens.int Tryz.underlying23
theorem openV_api_Errno : OpensV Tryz.prog 23 (fun n => D.int .i64 n) (fun n => IntKind.min .i64 ≤ n ∧ n ≤ IntKind.max .i64) := Opens.one open_api_Errno (cells_int' Tryz.underlying23)
theorem open_uint8 : Opens Tryz.prog 5 (fun n => [D.int .u8 n]) (fun n => IntKind.min .u8 ≤ n ∧ n ≤ IntKind.max .u8) := Opens.int Tryz.underlying5
theorem openV_uint8 : OpensV Tryz.prog 5 (fun n => D.int .u8 n) (fun n => IntKind.min .u8 ≤ n ∧ n ≤ IntKind.max .u8) := Opens.one open_uint8 (cells_int' Tryz.underlying5)
theorem open_uint16 : Opens Tryz.prog 34 (fun n => [D.int .u16 n]) (fun n => IntKind.min .u16 ≤ n ∧ n ≤ IntKind.max .u16) := Opens.int Tryz.underlying34
theorem openV_uint16 : OpensV Tryz.prog 34 (fun n => D.int .u16 n) (fun n => IntKind.min .u16 ≤ n ∧ n ≤ IntKind.max .u16) := Opens.one open_uint16 (cells_int' Tryz.underlying34)
theorem open_bool : Opens Tryz.prog 4 (fun b => [D.bool b]) (fun _ => True) := Opens.bool Tryz.underlying4
theorem openV_bool : OpensV Tryz.prog 4 (fun b => D.bool b) (fun _ => True) := Opens.one open_bool (cells_bool' Tryz.underlying4)
theorem open_string : Opens Tryz.prog 9 (fun s => [D.str s]) (fun s => s.length ≤ Go.maxLen) := Opens.str Tryz.underlying9
theorem openV_string : OpensV Tryz.prog 9 (fun s => D.str s) (fun s => s.length ≤ Go.maxLen) := Opens.one open_string (cells_str' Tryz.underlying9)
theorem open_s_int : Opens Tryz.prog 154 (fun l : List Int => [encInts l]) (fun l => l.length ≤ Go.maxLen) :=
  (Opens.slice Tryz.underlying154 (by kernel_rfl) (by decide) open_int (D.int .i64) (fun _ => rfl) (.int .i64 0) rfl).map id (fun _ => rfl) (fun _ h => h.2)
theorem openV_s_int : OpensV Tryz.prog 154 encInts (fun l => l.length ≤ Go.maxLen) := Opens.one open_s_int (cells_slice' Tryz.underlying154)
theorem open_a2_uint8 : Opens Tryz.prog 35 (fun p : Int × Int => [D.int .u8 p.1, D.int .u8 p.2]) (fun _ => True) :=
  (Opens.arr (n := 2) Tryz.underlying35 (by kernel_rfl) (by kernel_rfl) open_uint8).mapOk (fun l => (l.getD 0 0, l.getD 1 0)) (fun l h => by obtain ⟨h1, _⟩ := h; match l, h1 with | [x0, x1], _ => rfl) (fun _ _ => trivial)
theorem openV_a2_uint8 : OpensV Tryz.prog 35 (fun p : Int × Int => D.agg [D.int .u8 p.1, D.int .u8 p.2]) (fun _ => True) := Opens.aggA Tryz.underlying35 open_a2_uint8

end Go.Proofs.YtjljjnipjhbeaaaGreatDoor
