/-
  What the functions compute that the statement reaches: contracts, and the plain laws between them. Conditions stand at each theorem.
-/
import Derived.Test.YtceapemkefaicaaMoreSerialStaysTwo
set_option linter.unusedVariables false
set_option linter.unusedSimpArgs false
set_option maxRecDepth 100000
set_option linter.unusedSimpArgs false
set_option linter.unusedVariables false
namespace Go.Proofs.Ytceapemkefaicaa
open Go Ab Pl
set_option maxHeartbeats 4000000 in
theorem law37_SerialStays (s : Ser) (q : Int × Int) (it : Int) : ACalls E.P 10 [encSer s, .agg [.int .i64 q.1, .int .i64 q.2], .int .i64 it] (.d (.bool true)) := by
  refine ACalls.intro E_ok Try.func10 rfl rfl Try.ntmps10 Try.results10 (Nat.le_of_ble_eq_true rfl) fun hok base S0 w0 => ?_
  -- region 0
  refine AWp.rseq E_ok [0, 1, 2, 3, 4, 6, 7, 8, 9, 10, 11, 12, 13, 22, 101] fun K hK => ?_
  simp [encSer_eq, encIsss_eq, serR_1, serR_2]
  repeat refine ⟨by first | omega | assumption | (simp only [maxLen]; omega) | (intros; omega) | decide, ?_⟩
  refine hK _ ?_
  clear hK K
  refine AWp.seq ?_
  -- region 1
  refine AWp.rseq E_ok [0, 1, 2, 3, 4, 6, 7, 8, 9, 10, 11, 12, 13, 22, 101] fun K hK => ?_
  simp [encSer_eq, encIsss_eq, serR_1, serR_2]
  repeat refine ⟨by first | omega | assumption | (simp only [maxLen]; omega) | (intros; omega) | decide, ?_⟩
  refine meet.of (ref37_Small s) ?_
  simp [encSer_eq, encIsss_eq, serR_1, serR_2]
  repeat refine ⟨by first | omega | assumption | (simp only [maxLen]; omega) | (intros; omega) | decide, ?_⟩
  refine meet.ofG (fun hg => serial_Right s (by have := small_ok (s := s) (by simpa using hg); omega)) ?_
  simp [encSer_eq, encIsss_eq, serR_1, serR_2]
  repeat refine ⟨by first | omega | assumption | (simp only [maxLen]; omega) | (intros; omega) | decide, ?_⟩
  refine hK _ ?_
  clear hK K
  refine AWp.cond rfl (fun h22 => ?_) (fun h22 => ?_)
  · try simp at h22
    -- region 2
    refine AWp.rseq E_ok [0, 1, 2, 3, 4, 6, 7, 8, 9, 10, 11, 12, 13, 22, 101] fun K hK => ?_
    simp [encSer_eq, encIsss_eq, serR_1, serR_2]
    repeat refine ⟨by first | omega | assumption | (simp only [maxLen]; omega) | (intros; omega) | decide, ?_⟩
    refine meet.of (law37_alive) ?_
    simp [encSer_eq, encIsss_eq, serR_1, serR_2]
    repeat refine ⟨by first | omega | assumption | (simp only [maxLen]; omega) | (intros; omega) | decide, ?_⟩
    refine hK _ ?_
    clear hK K
    refine AWp.ret ?_
    repeat first | refine thenN ?_ | refine thenX ?_ | refine thenR ?_ | refine blockN ?_ | refine blockR ?_ | refine blockX ?_ | refine blockM rfl ?_
    simp [RetOk, RV]
  · try simp at h22
    have h : SerOk s := serR_ok (by simpa using h22.2)
    have hl : s.iss.length ≤ 1000 := by have := h.len; omega
    have hs1 : (recR s q.1 q.2 it).2 = 0 → serR (recR s q.1 q.2 it).1 = 0 ∧ keptB (recR s q.1 q.2 it).1 s = true := fun e => ⟨ok_serR (rec_stay h e).1, (rec_stay h e).2⟩
    have hs2 : (missR s q.1 q.2).2 = 0 → serR (missR s q.1 q.2).1 = 0 ∧ keptB (missR s q.1 q.2).1 s = true := fun e => ⟨ok_serR (miss_stay h e).1, (miss_stay h e).2⟩
    have hs3 : (bindR s q.1 it).2 = 0 → serR (bindR s q.1 it).1 = 0 ∧ keptB (bindR s q.1 it).1 s = true := fun e => ⟨ok_serR (bind_stay h e).1, (bind_stay h e).2⟩
    have hs4 : serR (claimR s q.2 it).1 = 0 := ok_serR (claim_stay h q.2 it).1
    have hs5 : keptB (claimR s q.2 it).1 s = true := (claim_stay h q.2 it).2
    refine AWp.skip ?_
    repeat first | refine thenN ?_ | refine thenX ?_ | refine thenR ?_ | refine blockN ?_ | refine blockR ?_ | refine blockX ?_ | refine blockM rfl ?_
    -- region 3
    refine AWp.rseq E_ok [0, 1, 2, 3, 4, 6, 7, 8, 9, 10, 11, 12, 13, 22, 101] fun K hK => ?_
    simp [encSer_eq, encIsss_eq, serR_1, serR_2, hs4, hs5]
    repeat refine ⟨by first | omega | assumption | (simp only [maxLen]; omega) | (intros; omega) | decide, ?_⟩
    refine meet.of (serial_Receive s q.1 q.2 it hl) ?_
    simp [encSer_eq, encIsss_eq, serR_1, serR_2, hs4, hs5]
    repeat refine ⟨by first | omega | assumption | (simp only [maxLen]; omega) | (intros; omega) | decide, ?_⟩
    refine hK _ ?_
    clear hK K
    -- region 4
    refine AWp.rseq E_ok [0, 1, 2, 3, 4, 6, 7, 8, 9, 10, 11, 12, 13, 22, 101] fun K hK => ?_
    simp [encSer_eq, encIsss_eq, serR_1, serR_2, hs4, hs5]
    repeat refine ⟨by first | omega | assumption | (simp only [maxLen]; omega) | (intros; omega) | decide, ?_⟩
    refine meet.of (serial_Miss s q.1 q.2 hl) ?_
    simp [encSer_eq, encIsss_eq, serR_1, serR_2, hs4, hs5]
    repeat refine ⟨by first | omega | assumption | (simp only [maxLen]; omega) | (intros; omega) | decide, ?_⟩
    refine hK _ ?_
    clear hK K
    -- region 5
    refine AWp.rseq E_ok [0, 1, 2, 3, 4, 6, 7, 8, 9, 10, 11, 12, 13, 22, 101] fun K hK => ?_
    simp [encSer_eq, encIsss_eq, serR_1, serR_2, hs4, hs5]
    repeat refine ⟨by first | omega | assumption | (simp only [maxLen]; omega) | (intros; omega) | decide, ?_⟩
    refine meet.of (serial_Bind s q.1 it hl) ?_
    simp [encSer_eq, encIsss_eq, serR_1, serR_2, hs4, hs5]
    repeat refine ⟨by first | omega | assumption | (simp only [maxLen]; omega) | (intros; omega) | decide, ?_⟩
    refine hK _ ?_
    clear hK K
    -- region 6
    refine AWp.rseq E_ok [0, 1, 2, 3, 4, 6, 7, 8, 9, 10, 11, 12, 13, 22, 101] fun K hK => ?_
    simp [encSer_eq, encIsss_eq, serR_1, serR_2, hs4, hs5]
    repeat refine ⟨by first | omega | assumption | (simp only [maxLen]; omega) | (intros; omega) | decide, ?_⟩
    refine meet.of (serial_Claim s q.2 it hl (fun x hx => by have := h.rng hx; omega)) ?_
    simp [encSer_eq, encIsss_eq, serR_1, serR_2, hs4, hs5]
    repeat refine ⟨by first | omega | assumption | (simp only [maxLen]; omega) | (intros; omega) | decide, ?_⟩
    refine hK _ ?_
    clear hK K
    refine AWp.seq ?_
    -- region 7
    refine AWp.rseq E_ok [0, 1, 2, 3, 4, 6, 7, 8, 9, 10, 11, 12, 13, 22, 101] fun K hK => ?_
    simp [encSer_eq, encIsss_eq, serR_1, serR_2, hs4, hs5]
    repeat refine ⟨by first | omega | assumption | (simp only [maxLen]; omega) | (intros; omega) | decide, ?_⟩
    refine meet.of (serial_Right (recR s q.1 q.2 it).1 (iss_rec _ _ _ hl)) ?_
    simp [encSer_eq, encIsss_eq, serR_1, serR_2, hs4, hs5]
    repeat refine ⟨by first | omega | assumption | (simp only [maxLen]; omega) | (intros; omega) | decide, ?_⟩
    refine meet.of (law37_kept (recR s q.1 q.2 it).1 s (iss_rec _ _ _ hl)) ?_
    simp [encSer_eq, encIsss_eq, serR_1, serR_2, hs4, hs5]
    repeat refine ⟨by first | omega | assumption | (simp only [maxLen]; omega) | (intros; omega) | decide, ?_⟩
    refine meet.of (serial_Right (missR s q.1 q.2).1 (iss_miss _ _ hl)) ?_
    simp [encSer_eq, encIsss_eq, serR_1, serR_2, hs4, hs5]
    repeat refine ⟨by first | omega | assumption | (simp only [maxLen]; omega) | (intros; omega) | decide, ?_⟩
    refine meet.of (law37_kept (missR s q.1 q.2).1 s (iss_miss _ _ hl)) ?_
    simp [encSer_eq, encIsss_eq, serR_1, serR_2, hs4, hs5]
    repeat refine ⟨by first | omega | assumption | (simp only [maxLen]; omega) | (intros; omega) | decide, ?_⟩
    refine meet.of (serial_Right (bindR s q.1 it).1 (iss_bind _ _ hl)) ?_
    simp [encSer_eq, encIsss_eq, serR_1, serR_2, hs4, hs5]
    repeat refine ⟨by first | omega | assumption | (simp only [maxLen]; omega) | (intros; omega) | decide, ?_⟩
    refine meet.of (law37_kept (bindR s q.1 it).1 s (iss_bind _ _ hl)) ?_
    simp [encSer_eq, encIsss_eq, serR_1, serR_2, hs4, hs5]
    repeat refine ⟨by first | omega | assumption | (simp only [maxLen]; omega) | (intros; omega) | decide, ?_⟩
    refine hK _ ?_
    clear hK K
    refine AWp.cond rfl (fun h101 => ?_) (fun h101 => ?_)
    · try simp at h101
      exfalso; rcases h101 with (⟨e, h | h⟩ | ⟨e, h | h⟩) | ⟨e, h | h⟩ <;> first | exact h (hs1 e).1 | exact h (hs2 e).1 | exact h (hs3 e).1 | (rw [(hs1 e).2] at h; cases h) | (rw [(hs2 e).2] at h; cases h) | (rw [(hs3 e).2] at h; cases h)
    · try simp at h101
      refine AWp.skip ?_
      repeat first | refine thenN ?_ | refine thenX ?_ | refine thenR ?_ | refine blockN ?_ | refine blockR ?_ | refine blockX ?_ | refine blockM rfl ?_
      -- region 9
      refine AWp.rseq E_ok [0, 1, 2, 3, 4, 6, 7, 8, 9, 10, 11, 12, 13, 22, 101] fun K hK => ?_
      simp [encSer_eq, encIsss_eq, serR_1, serR_2, hs4, hs5]
      repeat refine ⟨by first | omega | assumption | (simp only [maxLen]; omega) | (intros; omega) | decide, ?_⟩
      refine meet.of (serial_Right (claimR s q.2 it).1 (iss_claim _ _ hl)) ?_
      simp [encSer_eq, encIsss_eq, serR_1, serR_2, hs4, hs5]
      repeat refine ⟨by first | omega | assumption | (simp only [maxLen]; omega) | (intros; omega) | decide, ?_⟩
      refine meet.of (law37_kept (claimR s q.2 it).1 s (iss_claim _ _ hl)) ?_
      simp [encSer_eq, encIsss_eq, serR_1, serR_2, hs4, hs5]
      repeat refine ⟨by first | omega | assumption | (simp only [maxLen]; omega) | (intros; omega) | decide, ?_⟩
      refine meet.of (law37_alive) ?_
      simp [encSer_eq, encIsss_eq, serR_1, serR_2, hs4, hs5]
      repeat refine ⟨by first | omega | assumption | (simp only [maxLen]; omega) | (intros; omega) | decide, ?_⟩
      refine hK _ ?_
      clear hK K
      refine AWp.ret ?_
      repeat first | refine thenN ?_ | refine thenX ?_ | refine thenR ?_ | refine blockN ?_ | refine blockR ?_ | refine blockX ?_ | refine blockM rfl ?_
      simp [RetOk, RV]
end Go.Proofs.Ytceapemkefaicaa
