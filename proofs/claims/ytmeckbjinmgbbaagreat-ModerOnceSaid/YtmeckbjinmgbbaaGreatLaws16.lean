/- The statements of layer 16: their walks. -/
import Derived.Test.YtmeckbjinmgbbaaGreatStamp5
import Derived.Test.YtmeckbjinmgbbaaGreatXB
set_option linter.unusedVariables false
set_option linter.unusedSimpArgs false

namespace Go.Proofs.YtmeckbjinmgbbaaGreat
open Go.X
section
variable {root : List Int} {ticks now t : Int} {e : EnvS}
theorem stampF_t (h : mayB e now = true) : stampF root ticks e now = ⟨now / ticks, e.fr, e.to, now, e.commit, tagF root (stamp0 ticks e now)⟩ := by unfold stampF; rw [if_pos h]
theorem may_bd (h : mayB e now = true) : (0 ≤ now ∧ now ≤ 1000000) ∧ (0 ≤ e.fr ∧ e.fr < 8) ∧ (0 ≤ e.to ∧ e.to < 8) := by
  simp only [mayB, timeB, acB, Bool.and_eq_true, decide_eq_true_eq] at h
  exact ⟨h.1.1, h.1.2, h.2⟩
theorem stamp_right (h : mayB e now = true) (ht : 1 ≤ ticks) : rightB (stampF root ticks e now) = true := by
  obtain ⟨h1, h2, h3⟩ := may_bd h
  have := div_bd h1 ht
  rw [stampF_t h]
  simp only [rightB, timeB, acB, Bool.and_eq_true, decide_eq_true_eq]
  exact ⟨⟨⟨this, h1⟩, h2⟩, h3⟩
theorem stampF_clen (h : e.commit.length = 32) : (stampF root ticks e now).commit.length = 32 := by
  unfold stampF; split
  · exact h
  · rfl
theorem stampF_cb (h : bytes e.commit) : bytes (stampF root ticks e now).commit := by
  unfold stampF; split
  · exact h
  · intro c hc; rw [List.eq_of_mem_replicate (show c ∈ List.replicate 32 0 from hc)]; omega
@[simp] theorem stampF_tlen : (stampF root ticks e now).tag.length = 32 := by
  unfold stampF; split
  · exact tagF_len
  · rfl
@[simp] theorem stampF_tb : bytes (stampF root ticks e now).tag := by
  unfold stampF; split
  · exact tagF_bytes
  · intro c hc; rw [List.eq_of_mem_replicate (show c ∈ List.replicate 32 0 from hc)]; omega
theorem tag_stamp (h : mayB e now = true) : tagF root (stampF root ticks e now) = (stampF root ticks e now).tag := by rw [stampF_t h]; rfl
/-- What was stamped checks, through the window. -/
theorem check_stamp (h : mayB e now = true) (ht : 1 ≤ ticks) (h2 : timeB t = true) : checkF root ticks (stampF root ticks e now) t = if t < now ∨ t > now + 50 then 5 else 0 := by
  rw [chk_ok (stamp_right h ht) h2, if_neg]
  · rw [stampF_t h]
  · rintro (e | e)
    · exact e (by rw [stampF_t h])
    · exact e (tag_stamp h)
end

theorem numH_high4 {x : Int} (h : 0 ≤ x ∧ x ≤ 1000000) : numH (highF x 4) = x := by
  rw [highF_succ, highF_succ, highF_succ, highF_succ, lowB_eq h.1 (by decide), lowB_eq h.1 (by decide), lowB_eq h.1 (by decide), lowB_eq h.1 (by decide)]
  simp only [IntKind.wrap_u8, numH, List.foldl_cons, highF, lowF, List.range_zero, List.map_nil, List.reverse_nil, List.foldl_nil]
  simp only [show (256 : Int) ^ 3 = 16777216 from rfl, show (256 : Int) ^ 2 = 65536 from rfl, show (256 : Int) ^ 1 = 256 from rfl, show (256 : Int) ^ 0 = 1 from rfl]
  omega
theorem read_bytes {s : StampS} (h : rightB s = true) (hc : s.commit.length = 32) (ht : s.tag.length = 32) : readS (bytesL s) = s := by
  have hb := right_bd h
  have t8 : ∀ y, (highF y 4).take 8 = highF y 4 := fun y => List.take_of_length_le (by simp)
  have d6 : ∀ (y : Int) (k : Nat), (highF y 4).drop (k + 4) = [] := fun y k => List.drop_of_length_le (by simp)
  have e1 : ((bytesL s).take 4).take 8 = highF s.epoch 4 := by simp [bytesL, t8]
  have e2 : (((bytesL s).drop 6).take (10 - 6)).take 8 = highF s.time 4 := by simp [bytesL, List.drop_append, t8, d6 _ 2]
  have e3 : (bytesL s).getD 4 0 = s.fr := by simp [bytesL]
  have e4 : (bytesL s).getD 5 0 = s.to := by simp [bytesL, List.getElem?_append]
  have tt : s.tag.take 32 = s.tag := List.take_of_length_le (by omega)
  have e5 : ((bytesL s).drop 10).take 32 = s.commit := by simp [bytesL, List.drop_append, d6 _ 6, hc]
  have e6 : ((bytesL s).drop 42).take 32 = s.tag := by simp [bytesL, List.drop_append, d6 _ 38, d6 _ 32, hc, tt]
  unfold readS
  rw [e1, e2, e3, e4, e5, e6, numH_high4 hb.1, numH_high4 hb.2.1]
theorem read_ok {s : StampS} (h : rightB s = true) (hc : s.commit.length = 32) (ht : s.tag.length = 32) : readE (bytesL s) = 0 := by
  have hl := bytesL_len hc ht
  exact readE0 (by omega) (by rw [read_bytes h hc ht]; rintro (e | e); omega; rw [h] at e; cases e)
theorem bF_len {s : StampS} (hc : s.commit.length = 32) (ht : s.tag.length = 32) : (bF s).length = bN s := by
  unfold bF bN; split
  · exact bytesL_len hc ht
  · rfl
theorem bF_bytes {s : StampS} (hcb : bytes s.commit) (htb : bytes s.tag) : bytes (bF s) := by
  unfold bF; split
  · rename_i h; exact bytesL_bytes h hcb htb
  · simp
theorem bN_le {s : StampS} : bN s ≤ 74 := by unfold bN; split <;> omega
@[simp] theorem readF_c {l : List Int} : (readF l).commit.length = 32 := by
  unfold readF; split
  · rename_i h
    by_cases h2 : l.length < 74
    · rw [readE3 h2] at h; cases h
    · exact readS_c (by omega)
  · rfl
@[simp] theorem readF_t {l : List Int} : (readF l).tag.length = 32 := by
  unfold readF; split
  · rename_i h
    by_cases h2 : l.length < 74
    · rw [readE3 h2] at h; cases h
    · exact readS_t (by omega)
  · rfl
theorem bytes_zero : bytes (List.replicate 32 0) := fun c hc => by rw [List.eq_of_mem_replicate hc]; omega
theorem readF_cb {l : List Int} (hb : bytes l) : bytes (readF l).commit := by
  unfold readF; split
  · exact (hb.drop 10).take 32
  · exact bytes_zero
theorem readF_tb {l : List Int} (hb : bytes l) : bytes (readF l).tag := by
  unfold readF; split
  · exact (hb.drop 42).take 32
  · exact bytes_zero
end Go.Proofs.YtmeckbjinmgbbaaGreat