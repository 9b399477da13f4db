/- StrikesThree: its walk. -/
import Derived.Test.YtnpnnafcdnefiaaStk6
set_option linter.unusedVariables false
set_option linter.unusedSimpArgs false

namespace Go.Proofs.Ytnpnnafcdnefiaa
open Go.X
/-- So many strikes of two accounts. -/
structure Th (S : LS) (a o now : Int) (i : Nat) : Prop where
  no : ∀ id : Int, (∀ k : Nat, k < i → id ≠ k ∧ id ≠ 100 + k) → S.get id = none
  yes : ∀ k : Nat, k < i → S.get (100 + k) = some ⟨o, now, false⟩
  ca : ∀ t, cnt S.m a t = if cnB a t ⟨a, now, false⟩ = true then i else 0
  co : ∀ t, cnt S.m o t = if cnB o t ⟨o, now, false⟩ = true then i else 0
  len : S.m.length ≤ 2 * i
theorem Th.nil {a o now : Int} : Th ⟨[], 0⟩ a o now 0 := ⟨fun _ _ => rfl, fun k h => by omega, fun t => by simp [cnt], fun t => by simp [cnt], Nat.le_refl _⟩
theorem cnB_no {a o t now : Int} {c : Bool} (h : o ≠ a) : ¬ cnB a t ⟨o, now, c⟩ = true := by simp [cnB, h]
theorem cnB_c {a o t now : Int} : ¬ cnB a t ⟨o, now, true⟩ = true := by simp [cnB]
theorem Th.one {S : LS} {a o now : Int} {i : Nat} (h : Th S a o now i) (hi : i < 10) (hao : a ≠ o) : S.get i = none ∧ (S.put i ⟨a, now, false⟩).get (100 + i) = none ∧ (S.put i ⟨a, now, false⟩).m.length ≤ 2 * i + 1 := by
  refine ⟨h.no _ fun k hk => ⟨by omega, by omega⟩, ?_, ?_⟩
  · rw [LS.get_put, if_neg (by omega)]; exact h.no _ fun k hk => ⟨by omega, by omega⟩
  · have := put_len (S := S) (i := i) (s := ⟨a, now, false⟩); have := h.len; omega
theorem Th.two {S : LS} {a o now : Int} {i : Nat} (h : Th S a o now i) (hi : i < 10) (hao : a ≠ o) : Th ((S.put i ⟨a, now, false⟩).put (100 + i) ⟨o, now, false⟩) a o now (i + 1) := by
  obtain ⟨h1, h2, h3⟩ := h.one hi hao
  refine ⟨fun id hid => ?_, fun k hk => ?_, fun t => ?_, fun t => ?_, ?_⟩
  · have hid2 := hid i (by omega)
    rw [LS.get_put, if_neg (by omega), LS.get_put, if_neg (by omega)]
    exact h.no id fun k hk => hid k (by omega)
  · rw [LS.get_put]
    by_cases e : k = i
    · rw [if_pos (by omega)]
    · rw [if_neg (by omega), LS.get_put, if_neg (by omega)]; exact h.yes k (by omega)
  · rw [cnt_new h2, cnt_new h1, h.ca, if_neg (cnB_no (Ne.symm hao))]
    split <;> omega
  · rw [cnt_new h2, cnt_new h1, h.co, if_neg (cnB_no hao)]
    split <;> omega
  · have := put_len (S := S.put i ⟨a, now, false⟩) (i := 100 + i) (s := ⟨o, now, false⟩); omega
/-- Some of them taken back. -/
structure Tc (S : LS) (a o now : Int) (m i : Nat) : Prop where
  yes : ∀ k : Nat, i ≤ k → k < m → S.get (100 + k) = some ⟨o, now, false⟩
  ca : ∀ t, cnt S.m a t = if cnB a t ⟨a, now, false⟩ = true then m else 0
  co : ∀ t, cnt S.m o t = if cnB o t ⟨o, now, false⟩ = true then m - i else 0
  len : S.m.length ≤ 2 * m + i
theorem Th.tc {S : LS} {a o now : Int} {m : Nat} (h : Th S a o now m) : Tc S a o now m 0 := ⟨fun k _ hk => h.yes k hk, h.ca, h.co, by have := h.len; omega⟩
theorem Tc.step {S : LS} {a o now : Int} {m i : Nat} (h : Tc S a o now m i) (hi : i < m) (hao : a ≠ o) : Tc (S.put (100 + i) ⟨o, now, true⟩) a o now m (i + 1) := by
  have h0 := h.yes i (Nat.le_refl _) hi
  refine ⟨fun k hk hkm => ?_, fun t => ?_, fun t => ?_, ?_⟩
  · rw [LS.get_put, if_neg (by omega)]; exact h.yes k (by omega) hkm
  · have := cnt_old (a := a) (now := t) (s' := ⟨o, now, true⟩) h0
    rw [if_neg (cnB_no (Ne.symm hao)), if_neg cnB_c, h.ca] at this
    omega
  · have := cnt_old (a := o) (now := t) (s' := ⟨o, now, true⟩) h0
    rw [if_neg cnB_c, h.co] at this
    split at this <;> split <;> first | omega | contradiction
  · have := put_len (S := S) (i := 100 + i) (s := ⟨o, now, true⟩); have := h.len; omega
theorem cnB_in {a t now : Int} (h : now ≤ t ∧ t ≤ now + 100) : cnB a t ⟨a, now, false⟩ = true := by simp [cnB]; omega
theorem cnB_out {a t now : Int} (h : now + 100 < t) : ¬ cnB a t ⟨a, now, false⟩ = true := by simp [cnB]; omega

set_option maxHeartbeats 4000000 in
theorem strikesThree_calls (a many now : Int) (w : World) :
    Calls Try.prog 6 [.int .i64 a, .int .i64 many, .int .i64 now].toArray w fun e w' => e = .returned (.bool true) ∧ HP w w' [] [] := by
 have k0 := newD_ok (n := 32) (by omega) (by omega)
 refine calls_of_W Try.func6 rfl Try.ntmps6 rfl rfl (HP.refl w []) ?_
 refine sr ?_
 refine oas ?_
 refine nx ?_
 refine cp rfl (fun w hp => awake23_calls w) ?_
 refine oas ?_
 refine nx ?_
 refine cg rfl (fun w hp => new21_calls 32 (by omega) (by omega) w) (fun b17 h17 => ?_)
 refine omv ?_
 refine ov vex ?_
 refine ov vex ?_
 refine oas ?_
 refine oas ?_
 refine nx ?_
 refine omv ?_
 refine cgP _ rfl (fun w hp => begun23_calls b17 (newD 32) k0 w (HP.here hp cov)) (fun r22 h22 => ?_)
 simp only [List.cons_append, List.nil_append, List.append_nil, List.append_assoc]
 refine WL.back (gRL 5 31 r22.2.2.2) ?_
 simp only [List.cons_append, List.nil_append, List.append_nil, List.append_assoc]
 refine omv ?_
 refine ov vex ?_
 refine ov vex ?_
 refine oas ?_
 refine oas ?_
 refine nq ?_
 refine W.seq ?_
 refine W.seq ?_
 by_cases c1 : a < 0
 · by_cases c2 : 7 < a
   · by_cases c3 : many < 0
     · by_cases c4 : 10 < many
       · by_cases c5 : now < 0
         · by_cases c6 : 900000 < now
           · obtain ⟨hv0, hS0, hn0⟩ := LV.new (n := 32) (by omega) (by omega) h22.1 h22.2
             rw [hS0] at hv0 ⊢
             refine W.region ?_
             refine omv ?_
             refine ov (V_eqlP (by kernel_rfl) rfl rfl) ?_
             refine omv ?_
             refine oy rfl rfl ?_
             refine omv ?_
             refine oy rfl rfl ?_
             refine ov (v2 V_lss) ?_
             refine ov (V_pick_f rfl rfl rfl) ?_
             refine omv ?_
             refine on rfl (decide_eq_true c1) ?_
             refine on rfl (decide_eq_true c1) ?_
             refine ov (V_pick_t rfl (decide_eq_true c1) rfl) ?_
             refine omv ?_
             refine on rfl rfl ?_
             refine on rfl rfl ?_
             refine ov (V_pick_t rfl rfl rfl) ?_
             refine omv ?_
             refine on rfl rfl ?_
             refine on rfl rfl ?_
             refine ov (V_pick_t rfl rfl rfl) ?_
             refine omv ?_
             refine on rfl rfl ?_
             refine on rfl rfl ?_
             refine ov (V_pick_t rfl rfl rfl) ?_
             refine omv ?_
             refine on rfl rfl ?_
             refine on rfl rfl ?_
             refine ov (V_pick_t rfl rfl rfl) ?_
             refine nq ?_
             refine W.cond_true rfl rfl ?_
             refine sr ?_
             refine omv ?_
             refine omv ?_
             refine oy rfl rfl ?_
             refine omv ?_
             refine oy rfl rfl ?_
             refine ov (V_neqP (by kernel_rfl) rfl rfl) ?_
             refine ov (V_pick_t rfl rfl rfl) ?_
             refine oas ?_
             refine nq ?_
             refine W.ret ?_
             refine WQ.then_ret ?_
             refine WQ.ret1 Try.results6 (.tmp rfl) ?_
             intro w' hp; exact ⟨by first | rfl | (simp; done) | (simp [*]; done) | simp_all, hp.forget⟩
           · obtain ⟨hv0, hS0, hn0⟩ := LV.new (n := 32) (by omega) (by omega) h22.1 h22.2
             rw [hS0] at hv0 ⊢
             refine W.region ?_
             refine omv ?_
             refine ov (V_eqlP (by kernel_rfl) rfl rfl) ?_
             refine omv ?_
             refine oy rfl rfl ?_
             refine omv ?_
             refine oy rfl rfl ?_
             refine ov (v2 V_lss) ?_
             refine ov (V_pick_f rfl rfl rfl) ?_
             refine omv ?_
             refine on rfl (decide_eq_true c1) ?_
             refine on rfl (decide_eq_true c1) ?_
             refine ov (V_pick_t rfl (decide_eq_true c1) rfl) ?_
             refine omv ?_
             refine on rfl rfl ?_
             refine on rfl rfl ?_
             refine ov (V_pick_t rfl rfl rfl) ?_
             refine omv ?_
             refine on rfl rfl ?_
             refine on rfl rfl ?_
             refine ov (V_pick_t rfl rfl rfl) ?_
             refine omv ?_
             refine on rfl rfl ?_
             refine on rfl rfl ?_
             refine ov (V_pick_t rfl rfl rfl) ?_
             refine omv ?_
             refine on rfl rfl ?_
             refine on rfl rfl ?_
             refine ov (V_pick_t rfl rfl rfl) ?_
             refine nq ?_
             refine W.cond_true rfl rfl ?_
             refine sr ?_
             refine omv ?_
             refine omv ?_
             refine oy rfl rfl ?_
             refine omv ?_
             refine oy rfl rfl ?_
             refine ov (V_neqP (by kernel_rfl) rfl rfl) ?_
             refine ov (V_pick_t rfl rfl rfl) ?_
             refine oas ?_
             refine nq ?_
             refine W.ret ?_
             refine WQ.then_ret ?_
             refine WQ.ret1 Try.results6 (.tmp rfl) ?_
             intro w' hp; exact ⟨by first | rfl | (simp; done) | (simp [*]; done) | simp_all, hp.forget⟩
         · by_cases c6 : 900000 < now
           · obtain ⟨hv0, hS0, hn0⟩ := LV.new (n := 32) (by omega) (by omega) h22.1 h22.2
             rw [hS0] at hv0 ⊢
             refine W.region ?_
             refine omv ?_
             refine ov (V_eqlP (by kernel_rfl) rfl rfl) ?_
             refine omv ?_
             refine oy rfl rfl ?_
             refine omv ?_
             refine oy rfl rfl ?_
             refine ov (v2 V_lss) ?_
             refine ov (V_pick_f rfl rfl rfl) ?_
             refine omv ?_
             refine on rfl (decide_eq_true c1) ?_
             refine on rfl (decide_eq_true c1) ?_
             refine ov (V_pick_t rfl (decide_eq_true c1) rfl) ?_
             refine omv ?_
             refine on rfl rfl ?_
             refine on rfl rfl ?_
             refine ov (V_pick_t rfl rfl rfl) ?_
             refine omv ?_
             refine on rfl rfl ?_
             refine on rfl rfl ?_
             refine ov (V_pick_t rfl rfl rfl) ?_
             refine omv ?_
             refine on rfl rfl ?_
             refine on rfl rfl ?_
             refine ov (V_pick_t rfl rfl rfl) ?_
             refine omv ?_
             refine on rfl rfl ?_
             refine on rfl rfl ?_
             refine ov (V_pick_t rfl rfl rfl) ?_
             refine nq ?_
             refine W.cond_true rfl rfl ?_
             refine sr ?_
             refine omv ?_
             refine omv ?_
             refine oy rfl rfl ?_
             refine omv ?_
             refine oy rfl rfl ?_
             refine ov (V_neqP (by kernel_rfl) rfl rfl) ?_
             refine ov (V_pick_t rfl rfl rfl) ?_
             refine oas ?_
             refine nq ?_
             refine W.ret ?_
             refine WQ.then_ret ?_
             refine WQ.ret1 Try.results6 (.tmp rfl) ?_
             intro w' hp; exact ⟨by first | rfl | (simp; done) | (simp [*]; done) | simp_all, hp.forget⟩
           · obtain ⟨hv0, hS0, hn0⟩ := LV.new (n := 32) (by omega) (by omega) h22.1 h22.2
             rw [hS0] at hv0 ⊢
             refine W.region ?_
             refine omv ?_
             refine ov (V_eqlP (by kernel_rfl) rfl rfl) ?_
             refine omv ?_
             refine oy rfl rfl ?_
             refine omv ?_
             refine oy rfl rfl ?_
             refine ov (v2 V_lss) ?_
             refine ov (V_pick_f rfl rfl rfl) ?_
             refine omv ?_
             refine on rfl (decide_eq_true c1) ?_
             refine on rfl (decide_eq_true c1) ?_
             refine ov (V_pick_t rfl (decide_eq_true c1) rfl) ?_
             refine omv ?_
             refine on rfl rfl ?_
             refine on rfl rfl ?_
             refine ov (V_pick_t rfl rfl rfl) ?_
             refine omv ?_
             refine on rfl rfl ?_
             refine on rfl rfl ?_
             refine ov (V_pick_t rfl rfl rfl) ?_
             refine omv ?_
             refine on rfl rfl ?_
             refine on rfl rfl ?_
             refine ov (V_pick_t rfl rfl rfl) ?_
             refine omv ?_
             refine on rfl rfl ?_
             refine on rfl rfl ?_
             refine ov (V_pick_t rfl rfl rfl) ?_
             refine nq ?_
             refine W.cond_true rfl rfl ?_
             refine sr ?_
             refine omv ?_
             refine omv ?_
             refine oy rfl rfl ?_
             refine omv ?_
             refine oy rfl rfl ?_
             refine ov (V_neqP (by kernel_rfl) rfl rfl) ?_
             refine ov (V_pick_t rfl rfl rfl) ?_
             refine oas ?_
             refine nq ?_
             refine W.ret ?_
             refine WQ.then_ret ?_
             refine WQ.ret1 Try.results6 (.tmp rfl) ?_
             intro w' hp; exact ⟨by first | rfl | (simp; done) | (simp [*]; done) | simp_all, hp.forget⟩
       · by_cases c5 : now < 0
         · by_cases c6 : 900000 < now
           · obtain ⟨hv0, hS0, hn0⟩ := LV.new (n := 32) (by omega) (by omega) h22.1 h22.2
             rw [hS0] at hv0 ⊢
             refine W.region ?_
             refine omv ?_
             refine ov (V_eqlP (by kernel_rfl) rfl rfl) ?_
             refine omv ?_
             refine oy rfl rfl ?_
             refine omv ?_
             refine oy rfl rfl ?_
             refine ov (v2 V_lss) ?_
             refine ov (V_pick_f rfl rfl rfl) ?_
             refine omv ?_
             refine on rfl (decide_eq_true c1) ?_
             refine on rfl (decide_eq_true c1) ?_
             refine ov (V_pick_t rfl (decide_eq_true c1) rfl) ?_
             refine omv ?_
             refine on rfl rfl ?_
             refine on rfl rfl ?_
             refine ov (V_pick_t rfl rfl rfl) ?_
             refine omv ?_
             refine on rfl rfl ?_
             refine on rfl rfl ?_
             refine ov (V_pick_t rfl rfl rfl) ?_
             refine omv ?_
             refine on rfl rfl ?_
             refine on rfl rfl ?_
             refine ov (V_pick_t rfl rfl rfl) ?_
             refine omv ?_
             refine on rfl rfl ?_
             refine on rfl rfl ?_
             refine ov (V_pick_t rfl rfl rfl) ?_
             refine nq ?_
             refine W.cond_true rfl rfl ?_
             refine sr ?_
             refine omv ?_
             refine omv ?_
             refine oy rfl rfl ?_
             refine omv ?_
             refine oy rfl rfl ?_
             refine ov (V_neqP (by kernel_rfl) rfl rfl) ?_
             refine ov (V_pick_t rfl rfl rfl) ?_
             refine oas ?_
             refine nq ?_
             refine W.ret ?_
             refine WQ.then_ret ?_
             refine WQ.ret1 Try.results6 (.tmp rfl) ?_
             intro w' hp; exact ⟨by first | rfl | (simp; done) | (simp [*]; done) | simp_all, hp.forget⟩
           · obtain ⟨hv0, hS0, hn0⟩ := LV.new (n := 32) (by omega) (by omega) h22.1 h22.2
             rw [hS0] at hv0 ⊢
             refine W.region ?_
             refine omv ?_
             refine ov (V_eqlP (by kernel_rfl) rfl rfl) ?_
             refine omv ?_
             refine oy rfl rfl ?_
             refine omv ?_
             refine oy rfl rfl ?_
             refine ov (v2 V_lss) ?_
             refine ov (V_pick_f rfl rfl rfl) ?_
             refine omv ?_
             refine on rfl (decide_eq_true c1) ?_
             refine on rfl (decide_eq_true c1) ?_
             refine ov (V_pick_t rfl (decide_eq_true c1) rfl) ?_
             refine omv ?_
             refine on rfl rfl ?_
             refine on rfl rfl ?_
             refine ov (V_pick_t rfl rfl rfl) ?_
             refine omv ?_
             refine on rfl rfl ?_
             refine on rfl rfl ?_
             refine ov (V_pick_t rfl rfl rfl) ?_
             refine omv ?_
             refine on rfl rfl ?_
             refine on rfl rfl ?_
             refine ov (V_pick_t rfl rfl rfl) ?_
             refine omv ?_
             refine on rfl rfl ?_
             refine on rfl rfl ?_
             refine ov (V_pick_t rfl rfl rfl) ?_
             refine nq ?_
             refine W.cond_true rfl rfl ?_
             refine sr ?_
             refine omv ?_
             refine omv ?_
             refine oy rfl rfl ?_
             refine omv ?_
             refine oy rfl rfl ?_
             refine ov (V_neqP (by kernel_rfl) rfl rfl) ?_
             refine ov (V_pick_t rfl rfl rfl) ?_
             refine oas ?_
             refine nq ?_
             refine W.ret ?_
             refine WQ.then_ret ?_
             refine WQ.ret1 Try.results6 (.tmp rfl) ?_
             intro w' hp; exact ⟨by first | rfl | (simp; done) | (simp [*]; done) | simp_all, hp.forget⟩
         · by_cases c6 : 900000 < now
           · obtain ⟨hv0, hS0, hn0⟩ := LV.new (n := 32) (by omega) (by omega) h22.1 h22.2
             rw [hS0] at hv0 ⊢
             refine W.region ?_
             refine omv ?_
             refine ov (V_eqlP (by kernel_rfl) rfl rfl) ?_
             refine omv ?_
             refine oy rfl rfl ?_
             refine omv ?_
             refine oy rfl rfl ?_
             refine ov (v2 V_lss) ?_
             refine ov (V_pick_f rfl rfl rfl) ?_
             refine omv ?_
             refine on rfl (decide_eq_true c1) ?_
             refine on rfl (decide_eq_true c1) ?_
             refine ov (V_pick_t rfl (decide_eq_true c1) rfl) ?_
             refine omv ?_
             refine on rfl rfl ?_
             refine on rfl rfl ?_
             refine ov (V_pick_t rfl rfl rfl) ?_
             refine omv ?_
             refine on rfl rfl ?_
             refine on rfl rfl ?_
             refine ov (V_pick_t rfl rfl rfl) ?_
             refine omv ?_
             refine on rfl rfl ?_
             refine on rfl rfl ?_
             refine ov (V_pick_t rfl rfl rfl) ?_
             refine omv ?_
             refine on rfl rfl ?_
             refine on rfl rfl ?_
             refine ov (V_pick_t rfl rfl rfl) ?_
             refine nq ?_
             refine W.cond_true rfl rfl ?_
             refine sr ?_
             refine omv ?_
             refine omv ?_
             refine oy rfl rfl ?_
             refine omv ?_
             refine oy rfl rfl ?_
             refine ov (V_neqP (by kernel_rfl) rfl rfl) ?_
             refine ov (V_pick_t rfl rfl rfl) ?_
             refine oas ?_
             refine nq ?_
             refine W.ret ?_
             refine WQ.then_ret ?_
             refine WQ.ret1 Try.results6 (.tmp rfl) ?_
             intro w' hp; exact ⟨by first | rfl | (simp; done) | (simp [*]; done) | simp_all, hp.forget⟩
           · obtain ⟨hv0, hS0, hn0⟩ := LV.new (n := 32) (by omega) (by omega) h22.1 h22.2
             rw [hS0] at hv0 ⊢
             refine W.region ?_
             refine omv ?_
             refine ov (V_eqlP (by kernel_rfl) rfl rfl) ?_
             refine omv ?_
             refine oy rfl rfl ?_
             refine omv ?_
             refine oy rfl rfl ?_
             refine ov (v2 V_lss) ?_
             refine ov (V_pick_f rfl rfl rfl) ?_
             refine omv ?_
             refine on rfl (decide_eq_true c1) ?_
             refine on rfl (decide_eq_true c1) ?_
             refine ov (V_pick_t rfl (decide_eq_true c1) rfl) ?_
             refine omv ?_
             refine on rfl rfl ?_
             refine on rfl rfl ?_
             refine ov (V_pick_t rfl rfl rfl) ?_
             refine omv ?_
             refine on rfl rfl ?_
             refine on rfl rfl ?_
             refine ov (V_pick_t rfl rfl rfl) ?_
             refine omv ?_
             refine on rfl rfl ?_
             refine on rfl rfl ?_
             refine ov (V_pick_t rfl rfl rfl) ?_
             refine omv ?_
             refine on rfl rfl ?_
             refine on rfl rfl ?_
             refine ov (V_pick_t rfl rfl rfl) ?_
             refine nq ?_
             refine W.cond_true rfl rfl ?_
             refine sr ?_
             refine omv ?_
             refine omv ?_
             refine oy rfl rfl ?_
             refine omv ?_
             refine oy rfl rfl ?_
             refine ov (V_neqP (by kernel_rfl) rfl rfl) ?_
             refine ov (V_pick_t rfl rfl rfl) ?_
             refine oas ?_
             refine nq ?_
             refine W.ret ?_
             refine WQ.then_ret ?_
             refine WQ.ret1 Try.results6 (.tmp rfl) ?_
             intro w' hp; exact ⟨by first | rfl | (simp; done) | (simp [*]; done) | simp_all, hp.forget⟩
     · by_cases c4 : 10 < many
       · by_cases c5 : now < 0
         · by_cases c6 : 900000 < now
           · obtain ⟨hv0, hS0, hn0⟩ := LV.new (n := 32) (by omega) (by omega) h22.1 h22.2
             rw [hS0] at hv0 ⊢
             refine W.region ?_
             refine omv ?_
             refine ov (V_eqlP (by kernel_rfl) rfl rfl) ?_
             refine omv ?_
             refine oy rfl rfl ?_
             refine omv ?_
             refine oy rfl rfl ?_
             refine ov (v2 V_lss) ?_
             refine ov (V_pick_f rfl rfl rfl) ?_
             refine omv ?_
             refine on rfl (decide_eq_true c1) ?_
             refine on rfl (decide_eq_true c1) ?_
             refine ov (V_pick_t rfl (decide_eq_true c1) rfl) ?_
             refine omv ?_
             refine on rfl rfl ?_
             refine on rfl rfl ?_
             refine ov (V_pick_t rfl rfl rfl) ?_
             refine omv ?_
             refine on rfl rfl ?_
             refine on rfl rfl ?_
             refine ov (V_pick_t rfl rfl rfl) ?_
             refine omv ?_
             refine on rfl rfl ?_
             refine on rfl rfl ?_
             refine ov (V_pick_t rfl rfl rfl) ?_
             refine omv ?_
             refine on rfl rfl ?_
             refine on rfl rfl ?_
             refine ov (V_pick_t rfl rfl rfl) ?_
             refine nq ?_
             refine W.cond_true rfl rfl ?_
             refine sr ?_
             refine omv ?_
             refine omv ?_
             refine oy rfl rfl ?_
             refine omv ?_
             refine oy rfl rfl ?_
             refine ov (V_neqP (by kernel_rfl) rfl rfl) ?_
             refine ov (V_pick_t rfl rfl rfl) ?_
             refine oas ?_
             refine nq ?_
             refine W.ret ?_
             refine WQ.then_ret ?_
             refine WQ.ret1 Try.results6 (.tmp rfl) ?_
             intro w' hp; exact ⟨by first | rfl | (simp; done) | (simp [*]; done) | simp_all, hp.forget⟩
           · obtain ⟨hv0, hS0, hn0⟩ := LV.new (n := 32) (by omega) (by omega) h22.1 h22.2
             rw [hS0] at hv0 ⊢
             refine W.region ?_
             refine omv ?_
             refine ov (V_eqlP (by kernel_rfl) rfl rfl) ?_
             refine omv ?_
             refine oy rfl rfl ?_
             refine omv ?_
             refine oy rfl rfl ?_
             refine ov (v2 V_lss) ?_
             refine ov (V_pick_f rfl rfl rfl) ?_
             refine omv ?_
             refine on rfl (decide_eq_true c1) ?_
             refine on rfl (decide_eq_true c1) ?_
             refine ov (V_pick_t rfl (decide_eq_true c1) rfl) ?_
             refine omv ?_
             refine on rfl rfl ?_
             refine on rfl rfl ?_
             refine ov (V_pick_t rfl rfl rfl) ?_
             refine omv ?_
             refine on rfl rfl ?_
             refine on rfl rfl ?_
             refine ov (V_pick_t rfl rfl rfl) ?_
             refine omv ?_
             refine on rfl rfl ?_
             refine on rfl rfl ?_
             refine ov (V_pick_t rfl rfl rfl) ?_
             refine omv ?_
             refine on rfl rfl ?_
             refine on rfl rfl ?_
             refine ov (V_pick_t rfl rfl rfl) ?_
             refine nq ?_
             refine W.cond_true rfl rfl ?_
             refine sr ?_
             refine omv ?_
             refine omv ?_
             refine oy rfl rfl ?_
             refine omv ?_
             refine oy rfl rfl ?_
             refine ov (V_neqP (by kernel_rfl) rfl rfl) ?_
             refine ov (V_pick_t rfl rfl rfl) ?_
             refine oas ?_
             refine nq ?_
             refine W.ret ?_
             refine WQ.then_ret ?_
             refine WQ.ret1 Try.results6 (.tmp rfl) ?_
             intro w' hp; exact ⟨by first | rfl | (simp; done) | (simp [*]; done) | simp_all, hp.forget⟩
         · by_cases c6 : 900000 < now
           · obtain ⟨hv0, hS0, hn0⟩ := LV.new (n := 32) (by omega) (by omega) h22.1 h22.2
             rw [hS0] at hv0 ⊢
             refine W.region ?_
             refine omv ?_
             refine ov (V_eqlP (by kernel_rfl) rfl rfl) ?_
             refine omv ?_
             refine oy rfl rfl ?_
             refine omv ?_
             refine oy rfl rfl ?_
             refine ov (v2 V_lss) ?_
             refine ov (V_pick_f rfl rfl rfl) ?_
             refine omv ?_
             refine on rfl (decide_eq_true c1) ?_
             refine on rfl (decide_eq_true c1) ?_
             refine ov (V_pick_t rfl (decide_eq_true c1) rfl) ?_
             refine omv ?_
             refine on rfl rfl ?_
             refine on rfl rfl ?_
             refine ov (V_pick_t rfl rfl rfl) ?_
             refine omv ?_
             refine on rfl rfl ?_
             refine on rfl rfl ?_
             refine ov (V_pick_t rfl rfl rfl) ?_
             refine omv ?_
             refine on rfl rfl ?_
             refine on rfl rfl ?_
             refine ov (V_pick_t rfl rfl rfl) ?_
             refine omv ?_
             refine on rfl rfl ?_
             refine on rfl rfl ?_
             refine ov (V_pick_t rfl rfl rfl) ?_
             refine nq ?_
             refine W.cond_true rfl rfl ?_
             refine sr ?_
             refine omv ?_
             refine omv ?_
             refine oy rfl rfl ?_
             refine omv ?_
             refine oy rfl rfl ?_
             refine ov (V_neqP (by kernel_rfl) rfl rfl) ?_
             refine ov (V_pick_t rfl rfl rfl) ?_
             refine oas ?_
             refine nq ?_
             refine W.ret ?_
             refine WQ.then_ret ?_
             refine WQ.ret1 Try.results6 (.tmp rfl) ?_
             intro w' hp; exact ⟨by first | rfl | (simp; done) | (simp [*]; done) | simp_all, hp.forget⟩
           · obtain ⟨hv0, hS0, hn0⟩ := LV.new (n := 32) (by omega) (by omega) h22.1 h22.2
             rw [hS0] at hv0 ⊢
             refine W.region ?_
             refine omv ?_
             refine ov (V_eqlP (by kernel_rfl) rfl rfl) ?_
             refine omv ?_
             refine oy rfl rfl ?_
             refine omv ?_
             refine oy rfl rfl ?_
             refine ov (v2 V_lss) ?_
             refine ov (V_pick_f rfl rfl rfl) ?_
             refine omv ?_
             refine on rfl (decide_eq_true c1) ?_
             refine on rfl (decide_eq_true c1) ?_
             refine ov (V_pick_t rfl (decide_eq_true c1) rfl) ?_
             refine omv ?_
             refine on rfl rfl ?_
             refine on rfl rfl ?_
             refine ov (V_pick_t rfl rfl rfl) ?_
             refine omv ?_
             refine on rfl rfl ?_
             refine on rfl rfl ?_
             refine ov (V_pick_t rfl rfl rfl) ?_
             refine omv ?_
             refine on rfl rfl ?_
             refine on rfl rfl ?_
             refine ov (V_pick_t rfl rfl rfl) ?_
             refine omv ?_
             refine on rfl rfl ?_
             refine on rfl rfl ?_
             refine ov (V_pick_t rfl rfl rfl) ?_
             refine nq ?_
             refine W.cond_true rfl rfl ?_
             refine sr ?_
             refine omv ?_
             refine omv ?_
             refine oy rfl rfl ?_
             refine omv ?_
             refine oy rfl rfl ?_
             refine ov (V_neqP (by kernel_rfl) rfl rfl) ?_
             refine ov (V_pick_t rfl rfl rfl) ?_
             refine oas ?_
             refine nq ?_
             refine W.ret ?_
             refine WQ.then_ret ?_
             refine WQ.ret1 Try.results6 (.tmp rfl) ?_
             intro w' hp; exact ⟨by first | rfl | (simp; done) | (simp [*]; done) | simp_all, hp.forget⟩
       · by_cases c5 : now < 0
         · by_cases c6 : 900000 < now
           · obtain ⟨hv0, hS0, hn0⟩ := LV.new (n := 32) (by omega) (by omega) h22.1 h22.2
             rw [hS0] at hv0 ⊢
             refine W.region ?_
             refine omv ?_
             refine ov (V_eqlP (by kernel_rfl) rfl rfl) ?_
             refine omv ?_
             refine oy rfl rfl ?_
             refine omv ?_
             refine oy rfl rfl ?_
             refine ov (v2 V_lss) ?_
             refine ov (V_pick_f rfl rfl rfl) ?_
             refine omv ?_
             refine on rfl (decide_eq_true c1) ?_
             refine on rfl (decide_eq_true c1) ?_
             refine ov (V_pick_t rfl (decide_eq_true c1) rfl) ?_
             refine omv ?_
             refine on rfl rfl ?_
             refine on rfl rfl ?_
             refine ov (V_pick_t rfl rfl rfl) ?_
             refine omv ?_
             refine on rfl rfl ?_
             refine on rfl rfl ?_
             refine ov (V_pick_t rfl rfl rfl) ?_
             refine omv ?_
             refine on rfl rfl ?_
             refine on rfl rfl ?_
             refine ov (V_pick_t rfl rfl rfl) ?_
             refine omv ?_
             refine on rfl rfl ?_
             refine on rfl rfl ?_
             refine ov (V_pick_t rfl rfl rfl) ?_
             refine nq ?_
             refine W.cond_true rfl rfl ?_
             refine sr ?_
             refine omv ?_
             refine omv ?_
             refine oy rfl rfl ?_
             refine omv ?_
             refine oy rfl rfl ?_
             refine ov (V_neqP (by kernel_rfl) rfl rfl) ?_
             refine ov (V_pick_t rfl rfl rfl) ?_
             refine oas ?_
             refine nq ?_
             refine W.ret ?_
             refine WQ.then_ret ?_
             refine WQ.ret1 Try.results6 (.tmp rfl) ?_
             intro w' hp; exact ⟨by first | rfl | (simp; done) | (simp [*]; done) | simp_all, hp.forget⟩
           · obtain ⟨hv0, hS0, hn0⟩ := LV.new (n := 32) (by omega) (by omega) h22.1 h22.2
             rw [hS0] at hv0 ⊢
             refine W.region ?_
             refine omv ?_
             refine ov (V_eqlP (by kernel_rfl) rfl rfl) ?_
             refine omv ?_
             refine oy rfl rfl ?_
             refine omv ?_
             refine oy rfl rfl ?_
             refine ov (v2 V_lss) ?_
             refine ov (V_pick_f rfl rfl rfl) ?_
             refine omv ?_
             refine on rfl (decide_eq_true c1) ?_
             refine on rfl (decide_eq_true c1) ?_
             refine ov (V_pick_t rfl (decide_eq_true c1) rfl) ?_
             refine omv ?_
             refine on rfl rfl ?_
             refine on rfl rfl ?_
             refine ov (V_pick_t rfl rfl rfl) ?_
             refine omv ?_
             refine on rfl rfl ?_
             refine on rfl rfl ?_
             refine ov (V_pick_t rfl rfl rfl) ?_
             refine omv ?_
             refine on rfl rfl ?_
             refine on rfl rfl ?_
             refine ov (V_pick_t rfl rfl rfl) ?_
             refine omv ?_
             refine on rfl rfl ?_
             refine on rfl rfl ?_
             refine ov (V_pick_t rfl rfl rfl) ?_
             refine nq ?_
             refine W.cond_true rfl rfl ?_
             refine sr ?_
             refine omv ?_
             refine omv ?_
             refine oy rfl rfl ?_
             refine omv ?_
             refine oy rfl rfl ?_
             refine ov (V_neqP (by kernel_rfl) rfl rfl) ?_
             refine ov (V_pick_t rfl rfl rfl) ?_
             refine oas ?_
             refine nq ?_
             refine W.ret ?_
             refine WQ.then_ret ?_
             refine WQ.ret1 Try.results6 (.tmp rfl) ?_
             intro w' hp; exact ⟨by first | rfl | (simp; done) | (simp [*]; done) | simp_all, hp.forget⟩
         · by_cases c6 : 900000 < now
           · obtain ⟨hv0, hS0, hn0⟩ := LV.new (n := 32) (by omega) (by omega) h22.1 h22.2
             rw [hS0] at hv0 ⊢
             refine W.region ?_
             refine omv ?_
             refine ov (V_eqlP (by kernel_rfl) rfl rfl) ?_
             refine omv ?_
             refine oy rfl rfl ?_
             refine omv ?_
             refine oy rfl rfl ?_
             refine ov (v2 V_lss) ?_
             refine ov (V_pick_f rfl rfl rfl) ?_
             refine omv ?_
             refine on rfl (decide_eq_true c1) ?_
             refine on rfl (decide_eq_true c1) ?_
             refine ov (V_pick_t rfl (decide_eq_true c1) rfl) ?_
             refine omv ?_
             refine on rfl rfl ?_
             refine on rfl rfl ?_
             refine ov (V_pick_t rfl rfl rfl) ?_
             refine omv ?_
             refine on rfl rfl ?_
             refine on rfl rfl ?_
             refine ov (V_pick_t rfl rfl rfl) ?_
             refine omv ?_
             refine on rfl rfl ?_
             refine on rfl rfl ?_
             refine ov (V_pick_t rfl rfl rfl) ?_
             refine omv ?_
             refine on rfl rfl ?_
             refine on rfl rfl ?_
             refine ov (V_pick_t rfl rfl rfl) ?_
             refine nq ?_
             refine W.cond_true rfl rfl ?_
             refine sr ?_
             refine omv ?_
             refine omv ?_
             refine oy rfl rfl ?_
             refine omv ?_
             refine oy rfl rfl ?_
             refine ov (V_neqP (by kernel_rfl) rfl rfl) ?_
             refine ov (V_pick_t rfl rfl rfl) ?_
             refine oas ?_
             refine nq ?_
             refine W.ret ?_
             refine WQ.then_ret ?_
             refine WQ.ret1 Try.results6 (.tmp rfl) ?_
             intro w' hp; exact ⟨by first | rfl | (simp; done) | (simp [*]; done) | simp_all, hp.forget⟩
           · obtain ⟨hv0, hS0, hn0⟩ := LV.new (n := 32) (by omega) (by omega) h22.1 h22.2
             rw [hS0] at hv0 ⊢
             refine W.region ?_
             refine omv ?_
             refine ov (V_eqlP (by kernel_rfl) rfl rfl) ?_
             refine omv ?_
             refine oy rfl rfl ?_
             refine omv ?_
             refine oy rfl rfl ?_
             refine ov (v2 V_lss) ?_
             refine ov (V_pick_f rfl rfl rfl) ?_
             refine omv ?_
             refine on rfl (decide_eq_true c1) ?_
             refine on rfl (decide_eq_true c1) ?_
             refine ov (V_pick_t rfl (decide_eq_true c1) rfl) ?_
             refine omv ?_
             refine on rfl rfl ?_
             refine on rfl rfl ?_
             refine ov (V_pick_t rfl rfl rfl) ?_
             refine omv ?_
             refine on rfl rfl ?_
             refine on rfl rfl ?_
             refine ov (V_pick_t rfl rfl rfl) ?_
             refine omv ?_
             refine on rfl rfl ?_
             refine on rfl rfl ?_
             refine ov (V_pick_t rfl rfl rfl) ?_
             refine omv ?_
             refine on rfl rfl ?_
             refine on rfl rfl ?_
             refine ov (V_pick_t rfl rfl rfl) ?_
             refine nq ?_
             refine W.cond_true rfl rfl ?_
             refine sr ?_
             refine omv ?_
             refine omv ?_
             refine oy rfl rfl ?_
             refine omv ?_
             refine oy rfl rfl ?_
             refine ov (V_neqP (by kernel_rfl) rfl rfl) ?_
             refine ov (V_pick_t rfl rfl rfl) ?_
             refine oas ?_
             refine nq ?_
             refine W.ret ?_
             refine WQ.then_ret ?_
             refine WQ.ret1 Try.results6 (.tmp rfl) ?_
             intro w' hp; exact ⟨by first | rfl | (simp; done) | (simp [*]; done) | simp_all, hp.forget⟩
   · by_cases c3 : many < 0
     · by_cases c4 : 10 < many
       · by_cases c5 : now < 0
         · by_cases c6 : 900000 < now
           · obtain ⟨hv0, hS0, hn0⟩ := LV.new (n := 32) (by omega) (by omega) h22.1 h22.2
             rw [hS0] at hv0 ⊢
             refine W.region ?_
             refine omv ?_
             refine ov (V_eqlP (by kernel_rfl) rfl rfl) ?_
             refine omv ?_
             refine oy rfl rfl ?_
             refine omv ?_
             refine oy rfl rfl ?_
             refine ov (v2 V_lss) ?_
             refine ov (V_pick_f rfl rfl rfl) ?_
             refine omv ?_
             refine on rfl (decide_eq_true c1) ?_
             refine on rfl (decide_eq_true c1) ?_
             refine ov (V_pick_t rfl (decide_eq_true c1) rfl) ?_
             refine omv ?_
             refine on rfl rfl ?_
             refine on rfl rfl ?_
             refine ov (V_pick_t rfl rfl rfl) ?_
             refine omv ?_
             refine on rfl rfl ?_
             refine on rfl rfl ?_
             refine ov (V_pick_t rfl rfl rfl) ?_
             refine omv ?_
             refine on rfl rfl ?_
             refine on rfl rfl ?_
             refine ov (V_pick_t rfl rfl rfl) ?_
             refine omv ?_
             refine on rfl rfl ?_
             refine on rfl rfl ?_
             refine ov (V_pick_t rfl rfl rfl) ?_
             refine nq ?_
             refine W.cond_true rfl rfl ?_
             refine sr ?_
             refine omv ?_
             refine omv ?_
             refine oy rfl rfl ?_
             refine omv ?_
             refine oy rfl rfl ?_
             refine ov (V_neqP (by kernel_rfl) rfl rfl) ?_
             refine ov (V_pick_t rfl rfl rfl) ?_
             refine oas ?_
             refine nq ?_
             refine W.ret ?_
             refine WQ.then_ret ?_
             refine WQ.ret1 Try.results6 (.tmp rfl) ?_
             intro w' hp; exact ⟨by first | rfl | (simp; done) | (simp [*]; done) | simp_all, hp.forget⟩
           · obtain ⟨hv0, hS0, hn0⟩ := LV.new (n := 32) (by omega) (by omega) h22.1 h22.2
             rw [hS0] at hv0 ⊢
             refine W.region ?_
             refine omv ?_
             refine ov (V_eqlP (by kernel_rfl) rfl rfl) ?_
             refine omv ?_
             refine oy rfl rfl ?_
             refine omv ?_
             refine oy rfl rfl ?_
             refine ov (v2 V_lss) ?_
             refine ov (V_pick_f rfl rfl rfl) ?_
             refine omv ?_
             refine on rfl (decide_eq_true c1) ?_
             refine on rfl (decide_eq_true c1) ?_
             refine ov (V_pick_t rfl (decide_eq_true c1) rfl) ?_
             refine omv ?_
             refine on rfl rfl ?_
             refine on rfl rfl ?_
             refine ov (V_pick_t rfl rfl rfl) ?_
             refine omv ?_
             refine on rfl rfl ?_
             refine on rfl rfl ?_
             refine ov (V_pick_t rfl rfl rfl) ?_
             refine omv ?_
             refine on rfl rfl ?_
             refine on rfl rfl ?_
             refine ov (V_pick_t rfl rfl rfl) ?_
             refine omv ?_
             refine on rfl rfl ?_
             refine on rfl rfl ?_
             refine ov (V_pick_t rfl rfl rfl) ?_
             refine nq ?_
             refine W.cond_true rfl rfl ?_
             refine sr ?_
             refine omv ?_
             refine omv ?_
             refine oy rfl rfl ?_
             refine omv ?_
             refine oy rfl rfl ?_
             refine ov (V_neqP (by kernel_rfl) rfl rfl) ?_
             refine ov (V_pick_t rfl rfl rfl) ?_
             refine oas ?_
             refine nq ?_
             refine W.ret ?_
             refine WQ.then_ret ?_
             refine WQ.ret1 Try.results6 (.tmp rfl) ?_
             intro w' hp; exact ⟨by first | rfl | (simp; done) | (simp [*]; done) | simp_all, hp.forget⟩
         · by_cases c6 : 900000 < now
           · obtain ⟨hv0, hS0, hn0⟩ := LV.new (n := 32) (by omega) (by omega) h22.1 h22.2
             rw [hS0] at hv0 ⊢
             refine W.region ?_
             refine omv ?_
             refine ov (V_eqlP (by kernel_rfl) rfl rfl) ?_
             refine omv ?_
             refine oy rfl rfl ?_
             refine omv ?_
             refine oy rfl rfl ?_
             refine ov (v2 V_lss) ?_
             refine ov (V_pick_f rfl rfl rfl) ?_
             refine omv ?_
             refine on rfl (decide_eq_true c1) ?_
             refine on rfl (decide_eq_true c1) ?_
             refine ov (V_pick_t rfl (decide_eq_true c1) rfl) ?_
             refine omv ?_
             refine on rfl rfl ?_
             refine on rfl rfl ?_
             refine ov (V_pick_t rfl rfl rfl) ?_
             refine omv ?_
             refine on rfl rfl ?_
             refine on rfl rfl ?_
             refine ov (V_pick_t rfl rfl rfl) ?_
             refine omv ?_
             refine on rfl rfl ?_
             refine on rfl rfl ?_
             refine ov (V_pick_t rfl rfl rfl) ?_
             refine omv ?_
             refine on rfl rfl ?_
             refine on rfl rfl ?_
             refine ov (V_pick_t rfl rfl rfl) ?_
             refine nq ?_
             refine W.cond_true rfl rfl ?_
             refine sr ?_
             refine omv ?_
             refine omv ?_
             refine oy rfl rfl ?_
             refine omv ?_
             refine oy rfl rfl ?_
             refine ov (V_neqP (by kernel_rfl) rfl rfl) ?_
             refine ov (V_pick_t rfl rfl rfl) ?_
             refine oas ?_
             refine nq ?_
             refine W.ret ?_
             refine WQ.then_ret ?_
             refine WQ.ret1 Try.results6 (.tmp rfl) ?_
             intro w' hp; exact ⟨by first | rfl | (simp; done) | (simp [*]; done) | simp_all, hp.forget⟩
           · obtain ⟨hv0, hS0, hn0⟩ := LV.new (n := 32) (by omega) (by omega) h22.1 h22.2
             rw [hS0] at hv0 ⊢
             refine W.region ?_
             refine omv ?_
             refine ov (V_eqlP (by kernel_rfl) rfl rfl) ?_
             refine omv ?_
             refine oy rfl rfl ?_
             refine omv ?_
             refine oy rfl rfl ?_
             refine ov (v2 V_lss) ?_
             refine ov (V_pick_f rfl rfl rfl) ?_
             refine omv ?_
             refine on rfl (decide_eq_true c1) ?_
             refine on rfl (decide_eq_true c1) ?_
             refine ov (V_pick_t rfl (decide_eq_true c1) rfl) ?_
             refine omv ?_
             refine on rfl rfl ?_
             refine on rfl rfl ?_
             refine ov (V_pick_t rfl rfl rfl) ?_
             refine omv ?_
             refine on rfl rfl ?_
             refine on rfl rfl ?_
             refine ov (V_pick_t rfl rfl rfl) ?_
             refine omv ?_
             refine on rfl rfl ?_
             refine on rfl rfl ?_
             refine ov (V_pick_t rfl rfl rfl) ?_
             refine omv ?_
             refine on rfl rfl ?_
             refine on rfl rfl ?_
             refine ov (V_pick_t rfl rfl rfl) ?_
             refine nq ?_
             refine W.cond_true rfl rfl ?_
             refine sr ?_
             refine omv ?_
             refine omv ?_
             refine oy rfl rfl ?_
             refine omv ?_
             refine oy rfl rfl ?_
             refine ov (V_neqP (by kernel_rfl) rfl rfl) ?_
             refine ov (V_pick_t rfl rfl rfl) ?_
             refine oas ?_
             refine nq ?_
             refine W.ret ?_
             refine WQ.then_ret ?_
             refine WQ.ret1 Try.results6 (.tmp rfl) ?_
             intro w' hp; exact ⟨by first | rfl | (simp; done) | (simp [*]; done) | simp_all, hp.forget⟩
       · by_cases c5 : now < 0
         · by_cases c6 : 900000 < now
           · obtain ⟨hv0, hS0, hn0⟩ := LV.new (n := 32) (by omega) (by omega) h22.1 h22.2
             rw [hS0] at hv0 ⊢
             refine W.region ?_
             refine omv ?_
             refine ov (V_eqlP (by kernel_rfl) rfl rfl) ?_
             refine omv ?_
             refine oy rfl rfl ?_
             refine omv ?_
             refine oy rfl rfl ?_
             refine ov (v2 V_lss) ?_
             refine ov (V_pick_f rfl rfl rfl) ?_
             refine omv ?_
             refine on rfl (decide_eq_true c1) ?_
             refine on rfl (decide_eq_true c1) ?_
             refine ov (V_pick_t rfl (decide_eq_true c1) rfl) ?_
             refine omv ?_
             refine on rfl rfl ?_
             refine on rfl rfl ?_
             refine ov (V_pick_t rfl rfl rfl) ?_
             refine omv ?_
             refine on rfl rfl ?_
             refine on rfl rfl ?_
             refine ov (V_pick_t rfl rfl rfl) ?_
             refine omv ?_
             refine on rfl rfl ?_
             refine on rfl rfl ?_
             refine ov (V_pick_t rfl rfl rfl) ?_
             refine omv ?_
             refine on rfl rfl ?_
             refine on rfl rfl ?_
             refine ov (V_pick_t rfl rfl rfl) ?_
             refine nq ?_
             refine W.cond_true rfl rfl ?_
             refine sr ?_
             refine omv ?_
             refine omv ?_
             refine oy rfl rfl ?_
             refine omv ?_
             refine oy rfl rfl ?_
             refine ov (V_neqP (by kernel_rfl) rfl rfl) ?_
             refine ov (V_pick_t rfl rfl rfl) ?_
             refine oas ?_
             refine nq ?_
             refine W.ret ?_
             refine WQ.then_ret ?_
             refine WQ.ret1 Try.results6 (.tmp rfl) ?_
             intro w' hp; exact ⟨by first | rfl | (simp; done) | (simp [*]; done) | simp_all, hp.forget⟩
           · obtain ⟨hv0, hS0, hn0⟩ := LV.new (n := 32) (by omega) (by omega) h22.1 h22.2
             rw [hS0] at hv0 ⊢
             refine W.region ?_
             refine omv ?_
             refine ov (V_eqlP (by kernel_rfl) rfl rfl) ?_
             refine omv ?_
             refine oy rfl rfl ?_
             refine omv ?_
             refine oy rfl rfl ?_
             refine ov (v2 V_lss) ?_
             refine ov (V_pick_f rfl rfl rfl) ?_
             refine omv ?_
             refine on rfl (decide_eq_true c1) ?_
             refine on rfl (decide_eq_true c1) ?_
             refine ov (V_pick_t rfl (decide_eq_true c1) rfl) ?_
             refine omv ?_
             refine on rfl rfl ?_
             refine on rfl rfl ?_
             refine ov (V_pick_t rfl rfl rfl) ?_
             refine omv ?_
             refine on rfl rfl ?_
             refine on rfl rfl ?_
             refine ov (V_pick_t rfl rfl rfl) ?_
             refine omv ?_
             refine on rfl rfl ?_
             refine on rfl rfl ?_
             refine ov (V_pick_t rfl rfl rfl) ?_
             refine omv ?_
             refine on rfl rfl ?_
             refine on rfl rfl ?_
             refine ov (V_pick_t rfl rfl rfl) ?_
             refine nq ?_
             refine W.cond_true rfl rfl ?_
             refine sr ?_
             refine omv ?_
             refine omv ?_
             refine oy rfl rfl ?_
             refine omv ?_
             refine oy rfl rfl ?_
             refine ov (V_neqP (by kernel_rfl) rfl rfl) ?_
             refine ov (V_pick_t rfl rfl rfl) ?_
             refine oas ?_
             refine nq ?_
             refine W.ret ?_
             refine WQ.then_ret ?_
             refine WQ.ret1 Try.results6 (.tmp rfl) ?_
             intro w' hp; exact ⟨by first | rfl | (simp; done) | (simp [*]; done) | simp_all, hp.forget⟩
         · by_cases c6 : 900000 < now
           · obtain ⟨hv0, hS0, hn0⟩ := LV.new (n := 32) (by omega) (by omega) h22.1 h22.2
             rw [hS0] at hv0 ⊢
             refine W.region ?_
             refine omv ?_
             refine ov (V_eqlP (by kernel_rfl) rfl rfl) ?_
             refine omv ?_
             refine oy rfl rfl ?_
             refine omv ?_
             refine oy rfl rfl ?_
             refine ov (v2 V_lss) ?_
             refine ov (V_pick_f rfl rfl rfl) ?_
             refine omv ?_
             refine on rfl (decide_eq_true c1) ?_
             refine on rfl (decide_eq_true c1) ?_
             refine ov (V_pick_t rfl (decide_eq_true c1) rfl) ?_
             refine omv ?_
             refine on rfl rfl ?_
             refine on rfl rfl ?_
             refine ov (V_pick_t rfl rfl rfl) ?_
             refine omv ?_
             refine on rfl rfl ?_
             refine on rfl rfl ?_
             refine ov (V_pick_t rfl rfl rfl) ?_
             refine omv ?_
             refine on rfl rfl ?_
             refine on rfl rfl ?_
             refine ov (V_pick_t rfl rfl rfl) ?_
             refine omv ?_
             refine on rfl rfl ?_
             refine on rfl rfl ?_
             refine ov (V_pick_t rfl rfl rfl) ?_
             refine nq ?_
             refine W.cond_true rfl rfl ?_
             refine sr ?_
             refine omv ?_
             refine omv ?_
             refine oy rfl rfl ?_
             refine omv ?_
             refine oy rfl rfl ?_
             refine ov (V_neqP (by kernel_rfl) rfl rfl) ?_
             refine ov (V_pick_t rfl rfl rfl) ?_
             refine oas ?_
             refine nq ?_
             refine W.ret ?_
             refine WQ.then_ret ?_
             refine WQ.ret1 Try.results6 (.tmp rfl) ?_
             intro w' hp; exact ⟨by first | rfl | (simp; done) | (simp [*]; done) | simp_all, hp.forget⟩
           · obtain ⟨hv0, hS0, hn0⟩ := LV.new (n := 32) (by omega) (by omega) h22.1 h22.2
             rw [hS0] at hv0 ⊢
             refine W.region ?_
             refine omv ?_
             refine ov (V_eqlP (by kernel_rfl) rfl rfl) ?_
             refine omv ?_
             refine oy rfl rfl ?_
             refine omv ?_
             refine oy rfl rfl ?_
             refine ov (v2 V_lss) ?_
             refine ov (V_pick_f rfl rfl rfl) ?_
             refine omv ?_
             refine on rfl (decide_eq_true c1) ?_
             refine on rfl (decide_eq_true c1) ?_
             refine ov (V_pick_t rfl (decide_eq_true c1) rfl) ?_
             refine omv ?_
             refine on rfl rfl ?_
             refine on rfl rfl ?_
             refine ov (V_pick_t rfl rfl rfl) ?_
             refine omv ?_
             refine on rfl rfl ?_
             refine on rfl rfl ?_
             refine ov (V_pick_t rfl rfl rfl) ?_
             refine omv ?_
             refine on rfl rfl ?_
             refine on rfl rfl ?_
             refine ov (V_pick_t rfl rfl rfl) ?_
             refine omv ?_
             refine on rfl rfl ?_
             refine on rfl rfl ?_
             refine ov (V_pick_t rfl rfl rfl) ?_
             refine nq ?_
             refine W.cond_true rfl rfl ?_
             refine sr ?_
             refine omv ?_
             refine omv ?_
             refine oy rfl rfl ?_
             refine omv ?_
             refine oy rfl rfl ?_
             refine ov (V_neqP (by kernel_rfl) rfl rfl) ?_
             refine ov (V_pick_t rfl rfl rfl) ?_
             refine oas ?_
             refine nq ?_
             refine W.ret ?_
             refine WQ.then_ret ?_
             refine WQ.ret1 Try.results6 (.tmp rfl) ?_
             intro w' hp; exact ⟨by first | rfl | (simp; done) | (simp [*]; done) | simp_all, hp.forget⟩
     · by_cases c4 : 10 < many
       · by_cases c5 : now < 0
         · by_cases c6 : 900000 < now
           · obtain ⟨hv0, hS0, hn0⟩ := LV.new (n := 32) (by omega) (by omega) h22.1 h22.2
             rw [hS0] at hv0 ⊢
             refine W.region ?_
             refine omv ?_
             refine ov (V_eqlP (by kernel_rfl) rfl rfl) ?_
             refine omv ?_
             refine oy rfl rfl ?_
             refine omv ?_
             refine oy rfl rfl ?_
             refine ov (v2 V_lss) ?_
             refine ov (V_pick_f rfl rfl rfl) ?_
             refine omv ?_
             refine on rfl (decide_eq_true c1) ?_
             refine on rfl (decide_eq_true c1) ?_
             refine ov (V_pick_t rfl (decide_eq_true c1) rfl) ?_
             refine omv ?_
             refine on rfl rfl ?_
             refine on rfl rfl ?_
             refine ov (V_pick_t rfl rfl rfl) ?_
             refine omv ?_
             refine on rfl rfl ?_
             refine on rfl rfl ?_
             refine ov (V_pick_t rfl rfl rfl) ?_
             refine omv ?_
             refine on rfl rfl ?_
             refine on rfl rfl ?_
             refine ov (V_pick_t rfl rfl rfl) ?_
             refine omv ?_
             refine on rfl rfl ?_
             refine on rfl rfl ?_
             refine ov (V_pick_t rfl rfl rfl) ?_
             refine nq ?_
             refine W.cond_true rfl rfl ?_
             refine sr ?_
             refine omv ?_
             refine omv ?_
             refine oy rfl rfl ?_
             refine omv ?_
             refine oy rfl rfl ?_
             refine ov (V_neqP (by kernel_rfl) rfl rfl) ?_
             refine ov (V_pick_t rfl rfl rfl) ?_
             refine oas ?_
             refine nq ?_
             refine W.ret ?_
             refine WQ.then_ret ?_
             refine WQ.ret1 Try.results6 (.tmp rfl) ?_
             intro w' hp; exact ⟨by first | rfl | (simp; done) | (simp [*]; done) | simp_all, hp.forget⟩
           · obtain ⟨hv0, hS0, hn0⟩ := LV.new (n := 32) (by omega) (by omega) h22.1 h22.2
             rw [hS0] at hv0 ⊢
             refine W.region ?_
             refine omv ?_
             refine ov (V_eqlP (by kernel_rfl) rfl rfl) ?_
             refine omv ?_
             refine oy rfl rfl ?_
             refine omv ?_
             refine oy rfl rfl ?_
             refine ov (v2 V_lss) ?_
             refine ov (V_pick_f rfl rfl rfl) ?_
             refine omv ?_
             refine on rfl (decide_eq_true c1) ?_
             refine on rfl (decide_eq_true c1) ?_
             refine ov (V_pick_t rfl (decide_eq_true c1) rfl) ?_
             refine omv ?_
             refine on rfl rfl ?_
             refine on rfl rfl ?_
             refine ov (V_pick_t rfl rfl rfl) ?_
             refine omv ?_
             refine on rfl rfl ?_
             refine on rfl rfl ?_
             refine ov (V_pick_t rfl rfl rfl) ?_
             refine omv ?_
             refine on rfl rfl ?_
             refine on rfl rfl ?_
             refine ov (V_pick_t rfl rfl rfl) ?_
             refine omv ?_
             refine on rfl rfl ?_
             refine on rfl rfl ?_
             refine ov (V_pick_t rfl rfl rfl) ?_
             refine nq ?_
             refine W.cond_true rfl rfl ?_
             refine sr ?_
             refine omv ?_
             refine omv ?_
             refine oy rfl rfl ?_
             refine omv ?_
             refine oy rfl rfl ?_
             refine ov (V_neqP (by kernel_rfl) rfl rfl) ?_
             refine ov (V_pick_t rfl rfl rfl) ?_
             refine oas ?_
             refine nq ?_
             refine W.ret ?_
             refine WQ.then_ret ?_
             refine WQ.ret1 Try.results6 (.tmp rfl) ?_
             intro w' hp; exact ⟨by first | rfl | (simp; done) | (simp [*]; done) | simp_all, hp.forget⟩
         · by_cases c6 : 900000 < now
           · obtain ⟨hv0, hS0, hn0⟩ := LV.new (n := 32) (by omega) (by omega) h22.1 h22.2
             rw [hS0] at hv0 ⊢
             refine W.region ?_
             refine omv ?_
             refine ov (V_eqlP (by kernel_rfl) rfl rfl) ?_
             refine omv ?_
             refine oy rfl rfl ?_
             refine omv ?_
             refine oy rfl rfl ?_
             refine ov (v2 V_lss) ?_
             refine ov (V_pick_f rfl rfl rfl) ?_
             refine omv ?_
             refine on rfl (decide_eq_true c1) ?_
             refine on rfl (decide_eq_true c1) ?_
             refine ov (V_pick_t rfl (decide_eq_true c1) rfl) ?_
             refine omv ?_
             refine on rfl rfl ?_
             refine on rfl rfl ?_
             refine ov (V_pick_t rfl rfl rfl) ?_
             refine omv ?_
             refine on rfl rfl ?_
             refine on rfl rfl ?_
             refine ov (V_pick_t rfl rfl rfl) ?_
             refine omv ?_
             refine on rfl rfl ?_
             refine on rfl rfl ?_
             refine ov (V_pick_t rfl rfl rfl) ?_
             refine omv ?_
             refine on rfl rfl ?_
             refine on rfl rfl ?_
             refine ov (V_pick_t rfl rfl rfl) ?_
             refine nq ?_
             refine W.cond_true rfl rfl ?_
             refine sr ?_
             refine omv ?_
             refine omv ?_
             refine oy rfl rfl ?_
             refine omv ?_
             refine oy rfl rfl ?_
             refine ov (V_neqP (by kernel_rfl) rfl rfl) ?_
             refine ov (V_pick_t rfl rfl rfl) ?_
             refine oas ?_
             refine nq ?_
             refine W.ret ?_
             refine WQ.then_ret ?_
             refine WQ.ret1 Try.results6 (.tmp rfl) ?_
             intro w' hp; exact ⟨by first | rfl | (simp; done) | (simp [*]; done) | simp_all, hp.forget⟩
           · obtain ⟨hv0, hS0, hn0⟩ := LV.new (n := 32) (by omega) (by omega) h22.1 h22.2
             rw [hS0] at hv0 ⊢
             refine W.region ?_
             refine omv ?_
             refine ov (V_eqlP (by kernel_rfl) rfl rfl) ?_
             refine omv ?_
             refine oy rfl rfl ?_
             refine omv ?_
             refine oy rfl rfl ?_
             refine ov (v2 V_lss) ?_
             refine ov (V_pick_f rfl rfl rfl) ?_
             refine omv ?_
             refine on rfl (decide_eq_true c1) ?_
             refine on rfl (decide_eq_true c1) ?_
             refine ov (V_pick_t rfl (decide_eq_true c1) rfl) ?_
             refine omv ?_
             refine on rfl rfl ?_
             refine on rfl rfl ?_
             refine ov (V_pick_t rfl rfl rfl) ?_
             refine omv ?_
             refine on rfl rfl ?_
             refine on rfl rfl ?_
             refine ov (V_pick_t rfl rfl rfl) ?_
             refine omv ?_
             refine on rfl rfl ?_
             refine on rfl rfl ?_
             refine ov (V_pick_t rfl rfl rfl) ?_
             refine omv ?_
             refine on rfl rfl ?_
             refine on rfl rfl ?_
             refine ov (V_pick_t rfl rfl rfl) ?_
             refine nq ?_
             refine W.cond_true rfl rfl ?_
             refine sr ?_
             refine omv ?_
             refine omv ?_
             refine oy rfl rfl ?_
             refine omv ?_
             refine oy rfl rfl ?_
             refine ov (V_neqP (by kernel_rfl) rfl rfl) ?_
             refine ov (V_pick_t rfl rfl rfl) ?_
             refine oas ?_
             refine nq ?_
             refine W.ret ?_
             refine WQ.then_ret ?_
             refine WQ.ret1 Try.results6 (.tmp rfl) ?_
             intro w' hp; exact ⟨by first | rfl | (simp; done) | (simp [*]; done) | simp_all, hp.forget⟩
       · by_cases c5 : now < 0
         · by_cases c6 : 900000 < now
           · obtain ⟨hv0, hS0, hn0⟩ := LV.new (n := 32) (by omega) (by omega) h22.1 h22.2
             rw [hS0] at hv0 ⊢
             refine W.region ?_
             refine omv ?_
             refine ov (V_eqlP (by kernel_rfl) rfl rfl) ?_
             refine omv ?_
             refine oy rfl rfl ?_
             refine omv ?_
             refine oy rfl rfl ?_
             refine ov (v2 V_lss) ?_
             refine ov (V_pick_f rfl rfl rfl) ?_
             refine omv ?_
             refine on rfl (decide_eq_true c1) ?_
             refine on rfl (decide_eq_true c1) ?_
             refine ov (V_pick_t rfl (decide_eq_true c1) rfl) ?_
             refine omv ?_
             refine on rfl rfl ?_
             refine on rfl rfl ?_
             refine ov (V_pick_t rfl rfl rfl) ?_
             refine omv ?_
             refine on rfl rfl ?_
             refine on rfl rfl ?_
             refine ov (V_pick_t rfl rfl rfl) ?_
             refine omv ?_
             refine on rfl rfl ?_
             refine on rfl rfl ?_
             refine ov (V_pick_t rfl rfl rfl) ?_
             refine omv ?_
             refine on rfl rfl ?_
             refine on rfl rfl ?_
             refine ov (V_pick_t rfl rfl rfl) ?_
             refine nq ?_
             refine W.cond_true rfl rfl ?_
             refine sr ?_
             refine omv ?_
             refine omv ?_
             refine oy rfl rfl ?_
             refine omv ?_
             refine oy rfl rfl ?_
             refine ov (V_neqP (by kernel_rfl) rfl rfl) ?_
             refine ov (V_pick_t rfl rfl rfl) ?_
             refine oas ?_
             refine nq ?_
             refine W.ret ?_
             refine WQ.then_ret ?_
             refine WQ.ret1 Try.results6 (.tmp rfl) ?_
             intro w' hp; exact ⟨by first | rfl | (simp; done) | (simp [*]; done) | simp_all, hp.forget⟩
           · obtain ⟨hv0, hS0, hn0⟩ := LV.new (n := 32) (by omega) (by omega) h22.1 h22.2
             rw [hS0] at hv0 ⊢
             refine W.region ?_
             refine omv ?_
             refine ov (V_eqlP (by kernel_rfl) rfl rfl) ?_
             refine omv ?_
             refine oy rfl rfl ?_
             refine omv ?_
             refine oy rfl rfl ?_
             refine ov (v2 V_lss) ?_
             refine ov (V_pick_f rfl rfl rfl) ?_
             refine omv ?_
             refine on rfl (decide_eq_true c1) ?_
             refine on rfl (decide_eq_true c1) ?_
             refine ov (V_pick_t rfl (decide_eq_true c1) rfl) ?_
             refine omv ?_
             refine on rfl rfl ?_
             refine on rfl rfl ?_
             refine ov (V_pick_t rfl rfl rfl) ?_
             refine omv ?_
             refine on rfl rfl ?_
             refine on rfl rfl ?_
             refine ov (V_pick_t rfl rfl rfl) ?_
             refine omv ?_
             refine on rfl rfl ?_
             refine on rfl rfl ?_
             refine ov (V_pick_t rfl rfl rfl) ?_
             refine omv ?_
             refine on rfl rfl ?_
             refine on rfl rfl ?_
             refine ov (V_pick_t rfl rfl rfl) ?_
             refine nq ?_
             refine W.cond_true rfl rfl ?_
             refine sr ?_
             refine omv ?_
             refine omv ?_
             refine oy rfl rfl ?_
             refine omv ?_
             refine oy rfl rfl ?_
             refine ov (V_neqP (by kernel_rfl) rfl rfl) ?_
             refine ov (V_pick_t rfl rfl rfl) ?_
             refine oas ?_
             refine nq ?_
             refine W.ret ?_
             refine WQ.then_ret ?_
             refine WQ.ret1 Try.results6 (.tmp rfl) ?_
             intro w' hp; exact ⟨by first | rfl | (simp; done) | (simp [*]; done) | simp_all, hp.forget⟩
         · by_cases c6 : 900000 < now
           · obtain ⟨hv0, hS0, hn0⟩ := LV.new (n := 32) (by omega) (by omega) h22.1 h22.2
             rw [hS0] at hv0 ⊢
             refine W.region ?_
             refine omv ?_
             refine ov (V_eqlP (by kernel_rfl) rfl rfl) ?_
             refine omv ?_
             refine oy rfl rfl ?_
             refine omv ?_
             refine oy rfl rfl ?_
             refine ov (v2 V_lss) ?_
             refine ov (V_pick_f rfl rfl rfl) ?_
             refine omv ?_
             refine on rfl (decide_eq_true c1) ?_
             refine on rfl (decide_eq_true c1) ?_
             refine ov (V_pick_t rfl (decide_eq_true c1) rfl) ?_
             refine omv ?_
             refine on rfl rfl ?_
             refine on rfl rfl ?_
             refine ov (V_pick_t rfl rfl rfl) ?_
             refine omv ?_
             refine on rfl rfl ?_
             refine on rfl rfl ?_
             refine ov (V_pick_t rfl rfl rfl) ?_
             refine omv ?_
             refine on rfl rfl ?_
             refine on rfl rfl ?_
             refine ov (V_pick_t rfl rfl rfl) ?_
             refine omv ?_
             refine on rfl rfl ?_
             refine on rfl rfl ?_
             refine ov (V_pick_t rfl rfl rfl) ?_
             refine nq ?_
             refine W.cond_true rfl rfl ?_
             refine sr ?_
             refine omv ?_
             refine omv ?_
             refine oy rfl rfl ?_
             refine omv ?_
             refine oy rfl rfl ?_
             refine ov (V_neqP (by kernel_rfl) rfl rfl) ?_
             refine ov (V_pick_t rfl rfl rfl) ?_
             refine oas ?_
             refine nq ?_
             refine W.ret ?_
             refine WQ.then_ret ?_
             refine WQ.ret1 Try.results6 (.tmp rfl) ?_
             intro w' hp; exact ⟨by first | rfl | (simp; done) | (simp [*]; done) | simp_all, hp.forget⟩
           · obtain ⟨hv0, hS0, hn0⟩ := LV.new (n := 32) (by omega) (by omega) h22.1 h22.2
             rw [hS0] at hv0 ⊢
             refine W.region ?_
             refine omv ?_
             refine ov (V_eqlP (by kernel_rfl) rfl rfl) ?_
             refine omv ?_
             refine oy rfl rfl ?_
             refine omv ?_
             refine oy rfl rfl ?_
             refine ov (v2 V_lss) ?_
             refine ov (V_pick_f rfl rfl rfl) ?_
             refine omv ?_
             refine on rfl (decide_eq_true c1) ?_
             refine on rfl (decide_eq_true c1) ?_
             refine ov (V_pick_t rfl (decide_eq_true c1) rfl) ?_
             refine omv ?_
             refine on rfl rfl ?_
             refine on rfl rfl ?_
             refine ov (V_pick_t rfl rfl rfl) ?_
             refine omv ?_
             refine on rfl rfl ?_
             refine on rfl rfl ?_
             refine ov (V_pick_t rfl rfl rfl) ?_
             refine omv ?_
             refine on rfl rfl ?_
             refine on rfl rfl ?_
             refine ov (V_pick_t rfl rfl rfl) ?_
             refine omv ?_
             refine on rfl rfl ?_
             refine on rfl rfl ?_
             refine ov (V_pick_t rfl rfl rfl) ?_
             refine nq ?_
             refine W.cond_true rfl rfl ?_
             refine sr ?_
             refine omv ?_
             refine omv ?_
             refine oy rfl rfl ?_
             refine omv ?_
             refine oy rfl rfl ?_
             refine ov (V_neqP (by kernel_rfl) rfl rfl) ?_
             refine ov (V_pick_t rfl rfl rfl) ?_
             refine oas ?_
             refine nq ?_
             refine W.ret ?_
             refine WQ.then_ret ?_
             refine WQ.ret1 Try.results6 (.tmp rfl) ?_
             intro w' hp; exact ⟨by first | rfl | (simp; done) | (simp [*]; done) | simp_all, hp.forget⟩
 · by_cases c2 : 7 < a
   · by_cases c3 : many < 0
     · by_cases c4 : 10 < many
       · by_cases c5 : now < 0
         · by_cases c6 : 900000 < now
           · obtain ⟨hv0, hS0, hn0⟩ := LV.new (n := 32) (by omega) (by omega) h22.1 h22.2
             rw [hS0] at hv0 ⊢
             refine W.region ?_
             refine omv ?_
             refine ov (V_eqlP (by kernel_rfl) rfl rfl) ?_
             refine omv ?_
             refine oy rfl rfl ?_
             refine omv ?_
             refine oy rfl rfl ?_
             refine ov (v2 V_lss) ?_
             refine ov (V_pick_f rfl rfl rfl) ?_
             refine omv ?_
             refine oy rfl (decide_eq_false c1) ?_
             refine omv ?_
             refine oy rfl (decide_eq_false c1) ?_
             refine ov (v2 V_gtr) ?_
             refine ov (V_pick_f rfl (decide_eq_false c1) rfl) ?_
             refine omv ?_
             refine on rfl (decide_eq_true (by omega)) ?_
             refine on rfl (decide_eq_true (by omega)) ?_
             refine ov (V_pick_t rfl (decide_eq_true (by omega)) rfl) ?_
             refine omv ?_
             refine on rfl rfl ?_
             refine on rfl rfl ?_
             refine ov (V_pick_t rfl rfl rfl) ?_
             refine omv ?_
             refine on rfl rfl ?_
             refine on rfl rfl ?_
             refine ov (V_pick_t rfl rfl rfl) ?_
             refine omv ?_
             refine on rfl rfl ?_
             refine on rfl rfl ?_
             refine ov (V_pick_t rfl rfl rfl) ?_
             refine nq ?_
             refine W.cond_true rfl rfl ?_
             refine sr ?_
             refine omv ?_
             refine omv ?_
             refine oy rfl rfl ?_
             refine omv ?_
             refine oy rfl rfl ?_
             refine ov (V_neqP (by kernel_rfl) rfl rfl) ?_
             refine ov (V_pick_t rfl rfl rfl) ?_
             refine oas ?_
             refine nq ?_
             refine W.ret ?_
             refine WQ.then_ret ?_
             refine WQ.ret1 Try.results6 (.tmp rfl) ?_
             intro w' hp; exact ⟨by first | rfl | (simp; done) | (simp [*]; done) | simp_all, hp.forget⟩
           · obtain ⟨hv0, hS0, hn0⟩ := LV.new (n := 32) (by omega) (by omega) h22.1 h22.2
             rw [hS0] at hv0 ⊢
             refine W.region ?_
             refine omv ?_
             refine ov (V_eqlP (by kernel_rfl) rfl rfl) ?_
             refine omv ?_
             refine oy rfl rfl ?_
             refine omv ?_
             refine oy rfl rfl ?_
             refine ov (v2 V_lss) ?_
             refine ov (V_pick_f rfl rfl rfl) ?_
             refine omv ?_
             refine oy rfl (decide_eq_false c1) ?_
             refine omv ?_
             refine oy rfl (decide_eq_false c1) ?_
             refine ov (v2 V_gtr) ?_
             refine ov (V_pick_f rfl (decide_eq_false c1) rfl) ?_
             refine omv ?_
             refine on rfl (decide_eq_true (by omega)) ?_
             refine on rfl (decide_eq_true (by omega)) ?_
             refine ov (V_pick_t rfl (decide_eq_true (by omega)) rfl) ?_
             refine omv ?_
             refine on rfl rfl ?_
             refine on rfl rfl ?_
             refine ov (V_pick_t rfl rfl rfl) ?_
             refine omv ?_
             refine on rfl rfl ?_
             refine on rfl rfl ?_
             refine ov (V_pick_t rfl rfl rfl) ?_
             refine omv ?_
             refine on rfl rfl ?_
             refine on rfl rfl ?_
             refine ov (V_pick_t rfl rfl rfl) ?_
             refine nq ?_
             refine W.cond_true rfl rfl ?_
             refine sr ?_
             refine omv ?_
             refine omv ?_
             refine oy rfl rfl ?_
             refine omv ?_
             refine oy rfl rfl ?_
             refine ov (V_neqP (by kernel_rfl) rfl rfl) ?_
             refine ov (V_pick_t rfl rfl rfl) ?_
             refine oas ?_
             refine nq ?_
             refine W.ret ?_
             refine WQ.then_ret ?_
             refine WQ.ret1 Try.results6 (.tmp rfl) ?_
             intro w' hp; exact ⟨by first | rfl | (simp; done) | (simp [*]; done) | simp_all, hp.forget⟩
         · by_cases c6 : 900000 < now
           · obtain ⟨hv0, hS0, hn0⟩ := LV.new (n := 32) (by omega) (by omega) h22.1 h22.2
             rw [hS0] at hv0 ⊢
             refine W.region ?_
             refine omv ?_
             refine ov (V_eqlP (by kernel_rfl) rfl rfl) ?_
             refine omv ?_
             refine oy rfl rfl ?_
             refine omv ?_
             refine oy rfl rfl ?_
             refine ov (v2 V_lss) ?_
             refine ov (V_pick_f rfl rfl rfl) ?_
             refine omv ?_
             refine oy rfl (decide_eq_false c1) ?_
             refine omv ?_
             refine oy rfl (decide_eq_false c1) ?_
             refine ov (v2 V_gtr) ?_
             refine ov (V_pick_f rfl (decide_eq_false c1) rfl) ?_
             refine omv ?_
             refine on rfl (decide_eq_true (by omega)) ?_
             refine on rfl (decide_eq_true (by omega)) ?_
             refine ov (V_pick_t rfl (decide_eq_true (by omega)) rfl) ?_
             refine omv ?_
             refine on rfl rfl ?_
             refine on rfl rfl ?_
             refine ov (V_pick_t rfl rfl rfl) ?_
             refine omv ?_
             refine on rfl rfl ?_
             refine on rfl rfl ?_
             refine ov (V_pick_t rfl rfl rfl) ?_
             refine omv ?_
             refine on rfl rfl ?_
             refine on rfl rfl ?_
             refine ov (V_pick_t rfl rfl rfl) ?_
             refine nq ?_
             refine W.cond_true rfl rfl ?_
             refine sr ?_
             refine omv ?_
             refine omv ?_
             refine oy rfl rfl ?_
             refine omv ?_
             refine oy rfl rfl ?_
             refine ov (V_neqP (by kernel_rfl) rfl rfl) ?_
             refine ov (V_pick_t rfl rfl rfl) ?_
             refine oas ?_
             refine nq ?_
             refine W.ret ?_
             refine WQ.then_ret ?_
             refine WQ.ret1 Try.results6 (.tmp rfl) ?_
             intro w' hp; exact ⟨by first | rfl | (simp; done) | (simp [*]; done) | simp_all, hp.forget⟩
           · obtain ⟨hv0, hS0, hn0⟩ := LV.new (n := 32) (by omega) (by omega) h22.1 h22.2
             rw [hS0] at hv0 ⊢
             refine W.region ?_
             refine omv ?_
             refine ov (V_eqlP (by kernel_rfl) rfl rfl) ?_
             refine omv ?_
             refine oy rfl rfl ?_
             refine omv ?_
             refine oy rfl rfl ?_
             refine ov (v2 V_lss) ?_
             refine ov (V_pick_f rfl rfl rfl) ?_
             refine omv ?_
             refine oy rfl (decide_eq_false c1) ?_
             refine omv ?_
             refine oy rfl (decide_eq_false c1) ?_
             refine ov (v2 V_gtr) ?_
             refine ov (V_pick_f rfl (decide_eq_false c1) rfl) ?_
             refine omv ?_
             refine on rfl (decide_eq_true (by omega)) ?_
             refine on rfl (decide_eq_true (by omega)) ?_
             refine ov (V_pick_t rfl (decide_eq_true (by omega)) rfl) ?_
             refine omv ?_
             refine on rfl rfl ?_
             refine on rfl rfl ?_
             refine ov (V_pick_t rfl rfl rfl) ?_
             refine omv ?_
             refine on rfl rfl ?_
             refine on rfl rfl ?_
             refine ov (V_pick_t rfl rfl rfl) ?_
             refine omv ?_
             refine on rfl rfl ?_
             refine on rfl rfl ?_
             refine ov (V_pick_t rfl rfl rfl) ?_
             refine nq ?_
             refine W.cond_true rfl rfl ?_
             refine sr ?_
             refine omv ?_
             refine omv ?_
             refine oy rfl rfl ?_
             refine omv ?_
             refine oy rfl rfl ?_
             refine ov (V_neqP (by kernel_rfl) rfl rfl) ?_
             refine ov (V_pick_t rfl rfl rfl) ?_
             refine oas ?_
             refine nq ?_
             refine W.ret ?_
             refine WQ.then_ret ?_
             refine WQ.ret1 Try.results6 (.tmp rfl) ?_
             intro w' hp; exact ⟨by first | rfl | (simp; done) | (simp [*]; done) | simp_all, hp.forget⟩
       · by_cases c5 : now < 0
         · by_cases c6 : 900000 < now
           · obtain ⟨hv0, hS0, hn0⟩ := LV.new (n := 32) (by omega) (by omega) h22.1 h22.2
             rw [hS0] at hv0 ⊢
             refine W.region ?_
             refine omv ?_
             refine ov (V_eqlP (by kernel_rfl) rfl rfl) ?_
             refine omv ?_
             refine oy rfl rfl ?_
             refine omv ?_
             refine oy rfl rfl ?_
             refine ov (v2 V_lss) ?_
             refine ov (V_pick_f rfl rfl rfl) ?_
             refine omv ?_
             refine oy rfl (decide_eq_false c1) ?_
             refine omv ?_
             refine oy rfl (decide_eq_false c1) ?_
             refine ov (v2 V_gtr) ?_
             refine ov (V_pick_f rfl (decide_eq_false c1) rfl) ?_
             refine omv ?_
             refine on rfl (decide_eq_true (by omega)) ?_
             refine on rfl (decide_eq_true (by omega)) ?_
             refine ov (V_pick_t rfl (decide_eq_true (by omega)) rfl) ?_
             refine omv ?_
             refine on rfl rfl ?_
             refine on rfl rfl ?_
             refine ov (V_pick_t rfl rfl rfl) ?_
             refine omv ?_
             refine on rfl rfl ?_
             refine on rfl rfl ?_
             refine ov (V_pick_t rfl rfl rfl) ?_
             refine omv ?_
             refine on rfl rfl ?_
             refine on rfl rfl ?_
             refine ov (V_pick_t rfl rfl rfl) ?_
             refine nq ?_
             refine W.cond_true rfl rfl ?_
             refine sr ?_
             refine omv ?_
             refine omv ?_
             refine oy rfl rfl ?_
             refine omv ?_
             refine oy rfl rfl ?_
             refine ov (V_neqP (by kernel_rfl) rfl rfl) ?_
             refine ov (V_pick_t rfl rfl rfl) ?_
             refine oas ?_
             refine nq ?_
             refine W.ret ?_
             refine WQ.then_ret ?_
             refine WQ.ret1 Try.results6 (.tmp rfl) ?_
             intro w' hp; exact ⟨by first | rfl | (simp; done) | (simp [*]; done) | simp_all, hp.forget⟩
           · obtain ⟨hv0, hS0, hn0⟩ := LV.new (n := 32) (by omega) (by omega) h22.1 h22.2
             rw [hS0] at hv0 ⊢
             refine W.region ?_
             refine omv ?_
             refine ov (V_eqlP (by kernel_rfl) rfl rfl) ?_
             refine omv ?_
             refine oy rfl rfl ?_
             refine omv ?_
             refine oy rfl rfl ?_
             refine ov (v2 V_lss) ?_
             refine ov (V_pick_f rfl rfl rfl) ?_
             refine omv ?_
             refine oy rfl (decide_eq_false c1) ?_
             refine omv ?_
             refine oy rfl (decide_eq_false c1) ?_
             refine ov (v2 V_gtr) ?_
             refine ov (V_pick_f rfl (decide_eq_false c1) rfl) ?_
             refine omv ?_
             refine on rfl (decide_eq_true (by omega)) ?_
             refine on rfl (decide_eq_true (by omega)) ?_
             refine ov (V_pick_t rfl (decide_eq_true (by omega)) rfl) ?_
             refine omv ?_
             refine on rfl rfl ?_
             refine on rfl rfl ?_
             refine ov (V_pick_t rfl rfl rfl) ?_
             refine omv ?_
             refine on rfl rfl ?_
             refine on rfl rfl ?_
             refine ov (V_pick_t rfl rfl rfl) ?_
             refine omv ?_
             refine on rfl rfl ?_
             refine on rfl rfl ?_
             refine ov (V_pick_t rfl rfl rfl) ?_
             refine nq ?_
             refine W.cond_true rfl rfl ?_
             refine sr ?_
             refine omv ?_
             refine omv ?_
             refine oy rfl rfl ?_
             refine omv ?_
             refine oy rfl rfl ?_
             refine ov (V_neqP (by kernel_rfl) rfl rfl) ?_
             refine ov (V_pick_t rfl rfl rfl) ?_
             refine oas ?_
             refine nq ?_
             refine W.ret ?_
             refine WQ.then_ret ?_
             refine WQ.ret1 Try.results6 (.tmp rfl) ?_
             intro w' hp; exact ⟨by first | rfl | (simp; done) | (simp [*]; done) | simp_all, hp.forget⟩
         · by_cases c6 : 900000 < now
           · obtain ⟨hv0, hS0, hn0⟩ := LV.new (n := 32) (by omega) (by omega) h22.1 h22.2
             rw [hS0] at hv0 ⊢
             refine W.region ?_
             refine omv ?_
             refine ov (V_eqlP (by kernel_rfl) rfl rfl) ?_
             refine omv ?_
             refine oy rfl rfl ?_
             refine omv ?_
             refine oy rfl rfl ?_
             refine ov (v2 V_lss) ?_
             refine ov (V_pick_f rfl rfl rfl) ?_
             refine omv ?_
             refine oy rfl (decide_eq_false c1) ?_
             refine omv ?_
             refine oy rfl (decide_eq_false c1) ?_
             refine ov (v2 V_gtr) ?_
             refine ov (V_pick_f rfl (decide_eq_false c1) rfl) ?_
             refine omv ?_
             refine on rfl (decide_eq_true (by omega)) ?_
             refine on rfl (decide_eq_true (by omega)) ?_
             refine ov (V_pick_t rfl (decide_eq_true (by omega)) rfl) ?_
             refine omv ?_
             refine on rfl rfl ?_
             refine on rfl rfl ?_
             refine ov (V_pick_t rfl rfl rfl) ?_
             refine omv ?_
             refine on rfl rfl ?_
             refine on rfl rfl ?_
             refine ov (V_pick_t rfl rfl rfl) ?_
             refine omv ?_
             refine on rfl rfl ?_
             refine on rfl rfl ?_
             refine ov (V_pick_t rfl rfl rfl) ?_
             refine nq ?_
             refine W.cond_true rfl rfl ?_
             refine sr ?_
             refine omv ?_
             refine omv ?_
             refine oy rfl rfl ?_
             refine omv ?_
             refine oy rfl rfl ?_
             refine ov (V_neqP (by kernel_rfl) rfl rfl) ?_
             refine ov (V_pick_t rfl rfl rfl) ?_
             refine oas ?_
             refine nq ?_
             refine W.ret ?_
             refine WQ.then_ret ?_
             refine WQ.ret1 Try.results6 (.tmp rfl) ?_
             intro w' hp; exact ⟨by first | rfl | (simp; done) | (simp [*]; done) | simp_all, hp.forget⟩
           · obtain ⟨hv0, hS0, hn0⟩ := LV.new (n := 32) (by omega) (by omega) h22.1 h22.2
             rw [hS0] at hv0 ⊢
             refine W.region ?_
             refine omv ?_
             refine ov (V_eqlP (by kernel_rfl) rfl rfl) ?_
             refine omv ?_
             refine oy rfl rfl ?_
             refine omv ?_
             refine oy rfl rfl ?_
             refine ov (v2 V_lss) ?_
             refine ov (V_pick_f rfl rfl rfl) ?_
             refine omv ?_
             refine oy rfl (decide_eq_false c1) ?_
             refine omv ?_
             refine oy rfl (decide_eq_false c1) ?_
             refine ov (v2 V_gtr) ?_
             refine ov (V_pick_f rfl (decide_eq_false c1) rfl) ?_
             refine omv ?_
             refine on rfl (decide_eq_true (by omega)) ?_
             refine on rfl (decide_eq_true (by omega)) ?_
             refine ov (V_pick_t rfl (decide_eq_true (by omega)) rfl) ?_
             refine omv ?_
             refine on rfl rfl ?_
             refine on rfl rfl ?_
             refine ov (V_pick_t rfl rfl rfl) ?_
             refine omv ?_
             refine on rfl rfl ?_
             refine on rfl rfl ?_
             refine ov (V_pick_t rfl rfl rfl) ?_
             refine omv ?_
             refine on rfl rfl ?_
             refine on rfl rfl ?_
             refine ov (V_pick_t rfl rfl rfl) ?_
             refine nq ?_
             refine W.cond_true rfl rfl ?_
             refine sr ?_
             refine omv ?_
             refine omv ?_
             refine oy rfl rfl ?_
             refine omv ?_
             refine oy rfl rfl ?_
             refine ov (V_neqP (by kernel_rfl) rfl rfl) ?_
             refine ov (V_pick_t rfl rfl rfl) ?_
             refine oas ?_
             refine nq ?_
             refine W.ret ?_
             refine WQ.then_ret ?_
             refine WQ.ret1 Try.results6 (.tmp rfl) ?_
             intro w' hp; exact ⟨by first | rfl | (simp; done) | (simp [*]; done) | simp_all, hp.forget⟩
     · by_cases c4 : 10 < many
       · by_cases c5 : now < 0
         · by_cases c6 : 900000 < now
           · obtain ⟨hv0, hS0, hn0⟩ := LV.new (n := 32) (by omega) (by omega) h22.1 h22.2
             rw [hS0] at hv0 ⊢
             refine W.region ?_
             refine omv ?_
             refine ov (V_eqlP (by kernel_rfl) rfl rfl) ?_
             refine omv ?_
             refine oy rfl rfl ?_
             refine omv ?_
             refine oy rfl rfl ?_
             refine ov (v2 V_lss) ?_
             refine ov (V_pick_f rfl rfl rfl) ?_
             refine omv ?_
             refine oy rfl (decide_eq_false c1) ?_
             refine omv ?_
             refine oy rfl (decide_eq_false c1) ?_
             refine ov (v2 V_gtr) ?_
             refine ov (V_pick_f rfl (decide_eq_false c1) rfl) ?_
             refine omv ?_
             refine on rfl (decide_eq_true (by omega)) ?_
             refine on rfl (decide_eq_true (by omega)) ?_
             refine ov (V_pick_t rfl (decide_eq_true (by omega)) rfl) ?_
             refine omv ?_
             refine on rfl rfl ?_
             refine on rfl rfl ?_
             refine ov (V_pick_t rfl rfl rfl) ?_
             refine omv ?_
             refine on rfl rfl ?_
             refine on rfl rfl ?_
             refine ov (V_pick_t rfl rfl rfl) ?_
             refine omv ?_
             refine on rfl rfl ?_
             refine on rfl rfl ?_
             refine ov (V_pick_t rfl rfl rfl) ?_
             refine nq ?_
             refine W.cond_true rfl rfl ?_
             refine sr ?_
             refine omv ?_
             refine omv ?_
             refine oy rfl rfl ?_
             refine omv ?_
             refine oy rfl rfl ?_
             refine ov (V_neqP (by kernel_rfl) rfl rfl) ?_
             refine ov (V_pick_t rfl rfl rfl) ?_
             refine oas ?_
             refine nq ?_
             refine W.ret ?_
             refine WQ.then_ret ?_
             refine WQ.ret1 Try.results6 (.tmp rfl) ?_
             intro w' hp; exact ⟨by first | rfl | (simp; done) | (simp [*]; done) | simp_all, hp.forget⟩
           · obtain ⟨hv0, hS0, hn0⟩ := LV.new (n := 32) (by omega) (by omega) h22.1 h22.2
             rw [hS0] at hv0 ⊢
             refine W.region ?_
             refine omv ?_
             refine ov (V_eqlP (by kernel_rfl) rfl rfl) ?_
             refine omv ?_
             refine oy rfl rfl ?_
             refine omv ?_
             refine oy rfl rfl ?_
             refine ov (v2 V_lss) ?_
             refine ov (V_pick_f rfl rfl rfl) ?_
             refine omv ?_
             refine oy rfl (decide_eq_false c1) ?_
             refine omv ?_
             refine oy rfl (decide_eq_false c1) ?_
             refine ov (v2 V_gtr) ?_
             refine ov (V_pick_f rfl (decide_eq_false c1) rfl) ?_
             refine omv ?_
             refine on rfl (decide_eq_true (by omega)) ?_
             refine on rfl (decide_eq_true (by omega)) ?_
             refine ov (V_pick_t rfl (decide_eq_true (by omega)) rfl) ?_
             refine omv ?_
             refine on rfl rfl ?_
             refine on rfl rfl ?_
             refine ov (V_pick_t rfl rfl rfl) ?_
             refine omv ?_
             refine on rfl rfl ?_
             refine on rfl rfl ?_
             refine ov (V_pick_t rfl rfl rfl) ?_
             refine omv ?_
             refine on rfl rfl ?_
             refine on rfl rfl ?_
             refine ov (V_pick_t rfl rfl rfl) ?_
             refine nq ?_
             refine W.cond_true rfl rfl ?_
             refine sr ?_
             refine omv ?_
             refine omv ?_
             refine oy rfl rfl ?_
             refine omv ?_
             refine oy rfl rfl ?_
             refine ov (V_neqP (by kernel_rfl) rfl rfl) ?_
             refine ov (V_pick_t rfl rfl rfl) ?_
             refine oas ?_
             refine nq ?_
             refine W.ret ?_
             refine WQ.then_ret ?_
             refine WQ.ret1 Try.results6 (.tmp rfl) ?_
             intro w' hp; exact ⟨by first | rfl | (simp; done) | (simp [*]; done) | simp_all, hp.forget⟩
         · by_cases c6 : 900000 < now
           · obtain ⟨hv0, hS0, hn0⟩ := LV.new (n := 32) (by omega) (by omega) h22.1 h22.2
             rw [hS0] at hv0 ⊢
             refine W.region ?_
             refine omv ?_
             refine ov (V_eqlP (by kernel_rfl) rfl rfl) ?_
             refine omv ?_
             refine oy rfl rfl ?_
             refine omv ?_
             refine oy rfl rfl ?_
             refine ov (v2 V_lss) ?_
             refine ov (V_pick_f rfl rfl rfl) ?_
             refine omv ?_
             refine oy rfl (decide_eq_false c1) ?_
             refine omv ?_
             refine oy rfl (decide_eq_false c1) ?_
             refine ov (v2 V_gtr) ?_
             refine ov (V_pick_f rfl (decide_eq_false c1) rfl) ?_
             refine omv ?_
             refine on rfl (decide_eq_true (by omega)) ?_
             refine on rfl (decide_eq_true (by omega)) ?_
             refine ov (V_pick_t rfl (decide_eq_true (by omega)) rfl) ?_
             refine omv ?_
             refine on rfl rfl ?_
             refine on rfl rfl ?_
             refine ov (V_pick_t rfl rfl rfl) ?_
             refine omv ?_
             refine on rfl rfl ?_
             refine on rfl rfl ?_
             refine ov (V_pick_t rfl rfl rfl) ?_
             refine omv ?_
             refine on rfl rfl ?_
             refine on rfl rfl ?_
             refine ov (V_pick_t rfl rfl rfl) ?_
             refine nq ?_
             refine W.cond_true rfl rfl ?_
             refine sr ?_
             refine omv ?_
             refine omv ?_
             refine oy rfl rfl ?_
             refine omv ?_
             refine oy rfl rfl ?_
             refine ov (V_neqP (by kernel_rfl) rfl rfl) ?_
             refine ov (V_pick_t rfl rfl rfl) ?_
             refine oas ?_
             refine nq ?_
             refine W.ret ?_
             refine WQ.then_ret ?_
             refine WQ.ret1 Try.results6 (.tmp rfl) ?_
             intro w' hp; exact ⟨by first | rfl | (simp; done) | (simp [*]; done) | simp_all, hp.forget⟩
           · obtain ⟨hv0, hS0, hn0⟩ := LV.new (n := 32) (by omega) (by omega) h22.1 h22.2
             rw [hS0] at hv0 ⊢
             refine W.region ?_
             refine omv ?_
             refine ov (V_eqlP (by kernel_rfl) rfl rfl) ?_
             refine omv ?_
             refine oy rfl rfl ?_
             refine omv ?_
             refine oy rfl rfl ?_
             refine ov (v2 V_lss) ?_
             refine ov (V_pick_f rfl rfl rfl) ?_
             refine omv ?_
             refine oy rfl (decide_eq_false c1) ?_
             refine omv ?_
             refine oy rfl (decide_eq_false c1) ?_
             refine ov (v2 V_gtr) ?_
             refine ov (V_pick_f rfl (decide_eq_false c1) rfl) ?_
             refine omv ?_
             refine on rfl (decide_eq_true (by omega)) ?_
             refine on rfl (decide_eq_true (by omega)) ?_
             refine ov (V_pick_t rfl (decide_eq_true (by omega)) rfl) ?_
             refine omv ?_
             refine on rfl rfl ?_
             refine on rfl rfl ?_
             refine ov (V_pick_t rfl rfl rfl) ?_
             refine omv ?_
             refine on rfl rfl ?_
             refine on rfl rfl ?_
             refine ov (V_pick_t rfl rfl rfl) ?_
             refine omv ?_
             refine on rfl rfl ?_
             refine on rfl rfl ?_
             refine ov (V_pick_t rfl rfl rfl) ?_
             refine nq ?_
             refine W.cond_true rfl rfl ?_
             refine sr ?_
             refine omv ?_
             refine omv ?_
             refine oy rfl rfl ?_
             refine omv ?_
             refine oy rfl rfl ?_
             refine ov (V_neqP (by kernel_rfl) rfl rfl) ?_
             refine ov (V_pick_t rfl rfl rfl) ?_
             refine oas ?_
             refine nq ?_
             refine W.ret ?_
             refine WQ.then_ret ?_
             refine WQ.ret1 Try.results6 (.tmp rfl) ?_
             intro w' hp; exact ⟨by first | rfl | (simp; done) | (simp [*]; done) | simp_all, hp.forget⟩
       · by_cases c5 : now < 0
         · by_cases c6 : 900000 < now
           · obtain ⟨hv0, hS0, hn0⟩ := LV.new (n := 32) (by omega) (by omega) h22.1 h22.2
             rw [hS0] at hv0 ⊢
             refine W.region ?_
             refine omv ?_
             refine ov (V_eqlP (by kernel_rfl) rfl rfl) ?_
             refine omv ?_
             refine oy rfl rfl ?_
             refine omv ?_
             refine oy rfl rfl ?_
             refine ov (v2 V_lss) ?_
             refine ov (V_pick_f rfl rfl rfl) ?_
             refine omv ?_
             refine oy rfl (decide_eq_false c1) ?_
             refine omv ?_
             refine oy rfl (decide_eq_false c1) ?_
             refine ov (v2 V_gtr) ?_
             refine ov (V_pick_f rfl (decide_eq_false c1) rfl) ?_
             refine omv ?_
             refine on rfl (decide_eq_true (by omega)) ?_
             refine on rfl (decide_eq_true (by omega)) ?_
             refine ov (V_pick_t rfl (decide_eq_true (by omega)) rfl) ?_
             refine omv ?_
             refine on rfl rfl ?_
             refine on rfl rfl ?_
             refine ov (V_pick_t rfl rfl rfl) ?_
             refine omv ?_
             refine on rfl rfl ?_
             refine on rfl rfl ?_
             refine ov (V_pick_t rfl rfl rfl) ?_
             refine omv ?_
             refine on rfl rfl ?_
             refine on rfl rfl ?_
             refine ov (V_pick_t rfl rfl rfl) ?_
             refine nq ?_
             refine W.cond_true rfl rfl ?_
             refine sr ?_
             refine omv ?_
             refine omv ?_
             refine oy rfl rfl ?_
             refine omv ?_
             refine oy rfl rfl ?_
             refine ov (V_neqP (by kernel_rfl) rfl rfl) ?_
             refine ov (V_pick_t rfl rfl rfl) ?_
             refine oas ?_
             refine nq ?_
             refine W.ret ?_
             refine WQ.then_ret ?_
             refine WQ.ret1 Try.results6 (.tmp rfl) ?_
             intro w' hp; exact ⟨by first | rfl | (simp; done) | (simp [*]; done) | simp_all, hp.forget⟩
           · obtain ⟨hv0, hS0, hn0⟩ := LV.new (n := 32) (by omega) (by omega) h22.1 h22.2
             rw [hS0] at hv0 ⊢
             refine W.region ?_
             refine omv ?_
             refine ov (V_eqlP (by kernel_rfl) rfl rfl) ?_
             refine omv ?_
             refine oy rfl rfl ?_
             refine omv ?_
             refine oy rfl rfl ?_
             refine ov (v2 V_lss) ?_
             refine ov (V_pick_f rfl rfl rfl) ?_
             refine omv ?_
             refine oy rfl (decide_eq_false c1) ?_
             refine omv ?_
             refine oy rfl (decide_eq_false c1) ?_
             refine ov (v2 V_gtr) ?_
             refine ov (V_pick_f rfl (decide_eq_false c1) rfl) ?_
             refine omv ?_
             refine on rfl (decide_eq_true (by omega)) ?_
             refine on rfl (decide_eq_true (by omega)) ?_
             refine ov (V_pick_t rfl (decide_eq_true (by omega)) rfl) ?_
             refine omv ?_
             refine on rfl rfl ?_
             refine on rfl rfl ?_
             refine ov (V_pick_t rfl rfl rfl) ?_
             refine omv ?_
             refine on rfl rfl ?_
             refine on rfl rfl ?_
             refine ov (V_pick_t rfl rfl rfl) ?_
             refine omv ?_
             refine on rfl rfl ?_
             refine on rfl rfl ?_
             refine ov (V_pick_t rfl rfl rfl) ?_
             refine nq ?_
             refine W.cond_true rfl rfl ?_
             refine sr ?_
             refine omv ?_
             refine omv ?_
             refine oy rfl rfl ?_
             refine omv ?_
             refine oy rfl rfl ?_
             refine ov (V_neqP (by kernel_rfl) rfl rfl) ?_
             refine ov (V_pick_t rfl rfl rfl) ?_
             refine oas ?_
             refine nq ?_
             refine W.ret ?_
             refine WQ.then_ret ?_
             refine WQ.ret1 Try.results6 (.tmp rfl) ?_
             intro w' hp; exact ⟨by first | rfl | (simp; done) | (simp [*]; done) | simp_all, hp.forget⟩
         · by_cases c6 : 900000 < now
           · obtain ⟨hv0, hS0, hn0⟩ := LV.new (n := 32) (by omega) (by omega) h22.1 h22.2
             rw [hS0] at hv0 ⊢
             refine W.region ?_
             refine omv ?_
             refine ov (V_eqlP (by kernel_rfl) rfl rfl) ?_
             refine omv ?_
             refine oy rfl rfl ?_
             refine omv ?_
             refine oy rfl rfl ?_
             refine ov (v2 V_lss) ?_
             refine ov (V_pick_f rfl rfl rfl) ?_
             refine omv ?_
             refine oy rfl (decide_eq_false c1) ?_
             refine omv ?_
             refine oy rfl (decide_eq_false c1) ?_
             refine ov (v2 V_gtr) ?_
             refine ov (V_pick_f rfl (decide_eq_false c1) rfl) ?_
             refine omv ?_
             refine on rfl (decide_eq_true (by omega)) ?_
             refine on rfl (decide_eq_true (by omega)) ?_
             refine ov (V_pick_t rfl (decide_eq_true (by omega)) rfl) ?_
             refine omv ?_
             refine on rfl rfl ?_
             refine on rfl rfl ?_
             refine ov (V_pick_t rfl rfl rfl) ?_
             refine omv ?_
             refine on rfl rfl ?_
             refine on rfl rfl ?_
             refine ov (V_pick_t rfl rfl rfl) ?_
             refine omv ?_
             refine on rfl rfl ?_
             refine on rfl rfl ?_
             refine ov (V_pick_t rfl rfl rfl) ?_
             refine nq ?_
             refine W.cond_true rfl rfl ?_
             refine sr ?_
             refine omv ?_
             refine omv ?_
             refine oy rfl rfl ?_
             refine omv ?_
             refine oy rfl rfl ?_
             refine ov (V_neqP (by kernel_rfl) rfl rfl) ?_
             refine ov (V_pick_t rfl rfl rfl) ?_
             refine oas ?_
             refine nq ?_
             refine W.ret ?_
             refine WQ.then_ret ?_
             refine WQ.ret1 Try.results6 (.tmp rfl) ?_
             intro w' hp; exact ⟨by first | rfl | (simp; done) | (simp [*]; done) | simp_all, hp.forget⟩
           · obtain ⟨hv0, hS0, hn0⟩ := LV.new (n := 32) (by omega) (by omega) h22.1 h22.2
             rw [hS0] at hv0 ⊢
             refine W.region ?_
             refine omv ?_
             refine ov (V_eqlP (by kernel_rfl) rfl rfl) ?_
             refine omv ?_
             refine oy rfl rfl ?_
             refine omv ?_
             refine oy rfl rfl ?_
             refine ov (v2 V_lss) ?_
             refine ov (V_pick_f rfl rfl rfl) ?_
             refine omv ?_
             refine oy rfl (decide_eq_false c1) ?_
             refine omv ?_
             refine oy rfl (decide_eq_false c1) ?_
             refine ov (v2 V_gtr) ?_
             refine ov (V_pick_f rfl (decide_eq_false c1) rfl) ?_
             refine omv ?_
             refine on rfl (decide_eq_true (by omega)) ?_
             refine on rfl (decide_eq_true (by omega)) ?_
             refine ov (V_pick_t rfl (decide_eq_true (by omega)) rfl) ?_
             refine omv ?_
             refine on rfl rfl ?_
             refine on rfl rfl ?_
             refine ov (V_pick_t rfl rfl rfl) ?_
             refine omv ?_
             refine on rfl rfl ?_
             refine on rfl rfl ?_
             refine ov (V_pick_t rfl rfl rfl) ?_
             refine omv ?_
             refine on rfl rfl ?_
             refine on rfl rfl ?_
             refine ov (V_pick_t rfl rfl rfl) ?_
             refine nq ?_
             refine W.cond_true rfl rfl ?_
             refine sr ?_
             refine omv ?_
             refine omv ?_
             refine oy rfl rfl ?_
             refine omv ?_
             refine oy rfl rfl ?_
             refine ov (V_neqP (by kernel_rfl) rfl rfl) ?_
             refine ov (V_pick_t rfl rfl rfl) ?_
             refine oas ?_
             refine nq ?_
             refine W.ret ?_
             refine WQ.then_ret ?_
             refine WQ.ret1 Try.results6 (.tmp rfl) ?_
             intro w' hp; exact ⟨by first | rfl | (simp; done) | (simp [*]; done) | simp_all, hp.forget⟩
   · by_cases c3 : many < 0
     · by_cases c4 : 10 < many
       · by_cases c5 : now < 0
         · by_cases c6 : 900000 < now
           · obtain ⟨hv0, hS0, hn0⟩ := LV.new (n := 32) (by omega) (by omega) h22.1 h22.2
             rw [hS0] at hv0 ⊢
             refine W.region ?_
             refine omv ?_
             refine ov (V_eqlP (by kernel_rfl) rfl rfl) ?_
             refine omv ?_
             refine oy rfl rfl ?_
             refine omv ?_
             refine oy rfl rfl ?_
             refine ov (v2 V_lss) ?_
             refine ov (V_pick_f rfl rfl rfl) ?_
             refine omv ?_
             refine oy rfl (decide_eq_false c1) ?_
             refine omv ?_
             refine oy rfl (decide_eq_false c1) ?_
             refine ov (v2 V_gtr) ?_
             refine ov (V_pick_f rfl (decide_eq_false c1) rfl) ?_
             refine omv ?_
             refine oy rfl (decide_eq_false (by omega)) ?_
             refine omv ?_
             refine oy rfl (decide_eq_false (by omega)) ?_
             refine ov (v2 V_lss) ?_
             refine ov (V_pick_f rfl (decide_eq_false (by omega)) rfl) ?_
             refine omv ?_
             refine on rfl (decide_eq_true c3) ?_
             refine on rfl (decide_eq_true c3) ?_
             refine ov (V_pick_t rfl (decide_eq_true c3) rfl) ?_
             refine omv ?_
             refine on rfl rfl ?_
             refine on rfl rfl ?_
             refine ov (V_pick_t rfl rfl rfl) ?_
             refine omv ?_
             refine on rfl rfl ?_
             refine on rfl rfl ?_
             refine ov (V_pick_t rfl rfl rfl) ?_
             refine nq ?_
             refine W.cond_true rfl rfl ?_
             refine sr ?_
             refine omv ?_
             refine omv ?_
             refine oy rfl rfl ?_
             refine omv ?_
             refine oy rfl rfl ?_
             refine ov (V_neqP (by kernel_rfl) rfl rfl) ?_
             refine ov (V_pick_t rfl rfl rfl) ?_
             refine oas ?_
             refine nq ?_
             refine W.ret ?_
             refine WQ.then_ret ?_
             refine WQ.ret1 Try.results6 (.tmp rfl) ?_
             intro w' hp; exact ⟨by first | rfl | (simp; done) | (simp [*]; done) | simp_all, hp.forget⟩
           · obtain ⟨hv0, hS0, hn0⟩ := LV.new (n := 32) (by omega) (by omega) h22.1 h22.2
             rw [hS0] at hv0 ⊢
             refine W.region ?_
             refine omv ?_
             refine ov (V_eqlP (by kernel_rfl) rfl rfl) ?_
             refine omv ?_
             refine oy rfl rfl ?_
             refine omv ?_
             refine oy rfl rfl ?_
             refine ov (v2 V_lss) ?_
             refine ov (V_pick_f rfl rfl rfl) ?_
             refine omv ?_
             refine oy rfl (decide_eq_false c1) ?_
             refine omv ?_
             refine oy rfl (decide_eq_false c1) ?_
             refine ov (v2 V_gtr) ?_
             refine ov (V_pick_f rfl (decide_eq_false c1) rfl) ?_
             refine omv ?_
             refine oy rfl (decide_eq_false (by omega)) ?_
             refine omv ?_
             refine oy rfl (decide_eq_false (by omega)) ?_
             refine ov (v2 V_lss) ?_
             refine ov (V_pick_f rfl (decide_eq_false (by omega)) rfl) ?_
             refine omv ?_
             refine on rfl (decide_eq_true c3) ?_
             refine on rfl (decide_eq_true c3) ?_
             refine ov (V_pick_t rfl (decide_eq_true c3) rfl) ?_
             refine omv ?_
             refine on rfl rfl ?_
             refine on rfl rfl ?_
             refine ov (V_pick_t rfl rfl rfl) ?_
             refine omv ?_
             refine on rfl rfl ?_
             refine on rfl rfl ?_
             refine ov (V_pick_t rfl rfl rfl) ?_
             refine nq ?_
             refine W.cond_true rfl rfl ?_
             refine sr ?_
             refine omv ?_
             refine omv ?_
             refine oy rfl rfl ?_
             refine omv ?_
             refine oy rfl rfl ?_
             refine ov (V_neqP (by kernel_rfl) rfl rfl) ?_
             refine ov (V_pick_t rfl rfl rfl) ?_
             refine oas ?_
             refine nq ?_
             refine W.ret ?_
             refine WQ.then_ret ?_
             refine WQ.ret1 Try.results6 (.tmp rfl) ?_
             intro w' hp; exact ⟨by first | rfl | (simp; done) | (simp [*]; done) | simp_all, hp.forget⟩
         · by_cases c6 : 900000 < now
           · obtain ⟨hv0, hS0, hn0⟩ := LV.new (n := 32) (by omega) (by omega) h22.1 h22.2
             rw [hS0] at hv0 ⊢
             refine W.region ?_
             refine omv ?_
             refine ov (V_eqlP (by kernel_rfl) rfl rfl) ?_
             refine omv ?_
             refine oy rfl rfl ?_
             refine omv ?_
             refine oy rfl rfl ?_
             refine ov (v2 V_lss) ?_
             refine ov (V_pick_f rfl rfl rfl) ?_
             refine omv ?_
             refine oy rfl (decide_eq_false c1) ?_
             refine omv ?_
             refine oy rfl (decide_eq_false c1) ?_
             refine ov (v2 V_gtr) ?_
             refine ov (V_pick_f rfl (decide_eq_false c1) rfl) ?_
             refine omv ?_
             refine oy rfl (decide_eq_false (by omega)) ?_
             refine omv ?_
             refine oy rfl (decide_eq_false (by omega)) ?_
             refine ov (v2 V_lss) ?_
             refine ov (V_pick_f rfl (decide_eq_false (by omega)) rfl) ?_
             refine omv ?_
             refine on rfl (decide_eq_true c3) ?_
             refine on rfl (decide_eq_true c3) ?_
             refine ov (V_pick_t rfl (decide_eq_true c3) rfl) ?_
             refine omv ?_
             refine on rfl rfl ?_
             refine on rfl rfl ?_
             refine ov (V_pick_t rfl rfl rfl) ?_
             refine omv ?_
             refine on rfl rfl ?_
             refine on rfl rfl ?_
             refine ov (V_pick_t rfl rfl rfl) ?_
             refine nq ?_
             refine W.cond_true rfl rfl ?_
             refine sr ?_
             refine omv ?_
             refine omv ?_
             refine oy rfl rfl ?_
             refine omv ?_
             refine oy rfl rfl ?_
             refine ov (V_neqP (by kernel_rfl) rfl rfl) ?_
             refine ov (V_pick_t rfl rfl rfl) ?_
             refine oas ?_
             refine nq ?_
             refine W.ret ?_
             refine WQ.then_ret ?_
             refine WQ.ret1 Try.results6 (.tmp rfl) ?_
             intro w' hp; exact ⟨by first | rfl | (simp; done) | (simp [*]; done) | simp_all, hp.forget⟩
           · obtain ⟨hv0, hS0, hn0⟩ := LV.new (n := 32) (by omega) (by omega) h22.1 h22.2
             rw [hS0] at hv0 ⊢
             refine W.region ?_
             refine omv ?_
             refine ov (V_eqlP (by kernel_rfl) rfl rfl) ?_
             refine omv ?_
             refine oy rfl rfl ?_
             refine omv ?_
             refine oy rfl rfl ?_
             refine ov (v2 V_lss) ?_
             refine ov (V_pick_f rfl rfl rfl) ?_
             refine omv ?_
             refine oy rfl (decide_eq_false c1) ?_
             refine omv ?_
             refine oy rfl (decide_eq_false c1) ?_
             refine ov (v2 V_gtr) ?_
             refine ov (V_pick_f rfl (decide_eq_false c1) rfl) ?_
             refine omv ?_
             refine oy rfl (decide_eq_false (by omega)) ?_
             refine omv ?_
             refine oy rfl (decide_eq_false (by omega)) ?_
             refine ov (v2 V_lss) ?_
             refine ov (V_pick_f rfl (decide_eq_false (by omega)) rfl) ?_
             refine omv ?_
             refine on rfl (decide_eq_true c3) ?_
             refine on rfl (decide_eq_true c3) ?_
             refine ov (V_pick_t rfl (decide_eq_true c3) rfl) ?_
             refine omv ?_
             refine on rfl rfl ?_
             refine on rfl rfl ?_
             refine ov (V_pick_t rfl rfl rfl) ?_
             refine omv ?_
             refine on rfl rfl ?_
             refine on rfl rfl ?_
             refine ov (V_pick_t rfl rfl rfl) ?_
             refine nq ?_
             refine W.cond_true rfl rfl ?_
             refine sr ?_
             refine omv ?_
             refine omv ?_
             refine oy rfl rfl ?_
             refine omv ?_
             refine oy rfl rfl ?_
             refine ov (V_neqP (by kernel_rfl) rfl rfl) ?_
             refine ov (V_pick_t rfl rfl rfl) ?_
             refine oas ?_
             refine nq ?_
             refine W.ret ?_
             refine WQ.then_ret ?_
             refine WQ.ret1 Try.results6 (.tmp rfl) ?_
             intro w' hp; exact ⟨by first | rfl | (simp; done) | (simp [*]; done) | simp_all, hp.forget⟩
       · by_cases c5 : now < 0
         · by_cases c6 : 900000 < now
           · obtain ⟨hv0, hS0, hn0⟩ := LV.new (n := 32) (by omega) (by omega) h22.1 h22.2
             rw [hS0] at hv0 ⊢
             refine W.region ?_
             refine omv ?_
             refine ov (V_eqlP (by kernel_rfl) rfl rfl) ?_
             refine omv ?_
             refine oy rfl rfl ?_
             refine omv ?_
             refine oy rfl rfl ?_
             refine ov (v2 V_lss) ?_
             refine ov (V_pick_f rfl rfl rfl) ?_
             refine omv ?_
             refine oy rfl (decide_eq_false c1) ?_
             refine omv ?_
             refine oy rfl (decide_eq_false c1) ?_
             refine ov (v2 V_gtr) ?_
             refine ov (V_pick_f rfl (decide_eq_false c1) rfl) ?_
             refine omv ?_
             refine oy rfl (decide_eq_false (by omega)) ?_
             refine omv ?_
             refine oy rfl (decide_eq_false (by omega)) ?_
             refine ov (v2 V_lss) ?_
             refine ov (V_pick_f rfl (decide_eq_false (by omega)) rfl) ?_
             refine omv ?_
             refine on rfl (decide_eq_true c3) ?_
             refine on rfl (decide_eq_true c3) ?_
             refine ov (V_pick_t rfl (decide_eq_true c3) rfl) ?_
             refine omv ?_
             refine on rfl rfl ?_
             refine on rfl rfl ?_
             refine ov (V_pick_t rfl rfl rfl) ?_
             refine omv ?_
             refine on rfl rfl ?_
             refine on rfl rfl ?_
             refine ov (V_pick_t rfl rfl rfl) ?_
             refine nq ?_
             refine W.cond_true rfl rfl ?_
             refine sr ?_
             refine omv ?_
             refine omv ?_
             refine oy rfl rfl ?_
             refine omv ?_
             refine oy rfl rfl ?_
             refine ov (V_neqP (by kernel_rfl) rfl rfl) ?_
             refine ov (V_pick_t rfl rfl rfl) ?_
             refine oas ?_
             refine nq ?_
             refine W.ret ?_
             refine WQ.then_ret ?_
             refine WQ.ret1 Try.results6 (.tmp rfl) ?_
             intro w' hp; exact ⟨by first | rfl | (simp; done) | (simp [*]; done) | simp_all, hp.forget⟩
           · obtain ⟨hv0, hS0, hn0⟩ := LV.new (n := 32) (by omega) (by omega) h22.1 h22.2
             rw [hS0] at hv0 ⊢
             refine W.region ?_
             refine omv ?_
             refine ov (V_eqlP (by kernel_rfl) rfl rfl) ?_
             refine omv ?_
             refine oy rfl rfl ?_
             refine omv ?_
             refine oy rfl rfl ?_
             refine ov (v2 V_lss) ?_
             refine ov (V_pick_f rfl rfl rfl) ?_
             refine omv ?_
             refine oy rfl (decide_eq_false c1) ?_
             refine omv ?_
             refine oy rfl (decide_eq_false c1) ?_
             refine ov (v2 V_gtr) ?_
             refine ov (V_pick_f rfl (decide_eq_false c1) rfl) ?_
             refine omv ?_
             refine oy rfl (decide_eq_false (by omega)) ?_
             refine omv ?_
             refine oy rfl (decide_eq_false (by omega)) ?_
             refine ov (v2 V_lss) ?_
             refine ov (V_pick_f rfl (decide_eq_false (by omega)) rfl) ?_
             refine omv ?_
             refine on rfl (decide_eq_true c3) ?_
             refine on rfl (decide_eq_true c3) ?_
             refine ov (V_pick_t rfl (decide_eq_true c3) rfl) ?_
             refine omv ?_
             refine on rfl rfl ?_
             refine on rfl rfl ?_
             refine ov (V_pick_t rfl rfl rfl) ?_
             refine omv ?_
             refine on rfl rfl ?_
             refine on rfl rfl ?_
             refine ov (V_pick_t rfl rfl rfl) ?_
             refine nq ?_
             refine W.cond_true rfl rfl ?_
             refine sr ?_
             refine omv ?_
             refine omv ?_
             refine oy rfl rfl ?_
             refine omv ?_
             refine oy rfl rfl ?_
             refine ov (V_neqP (by kernel_rfl) rfl rfl) ?_
             refine ov (V_pick_t rfl rfl rfl) ?_
             refine oas ?_
             refine nq ?_
             refine W.ret ?_
             refine WQ.then_ret ?_
             refine WQ.ret1 Try.results6 (.tmp rfl) ?_
             intro w' hp; exact ⟨by first | rfl | (simp; done) | (simp [*]; done) | simp_all, hp.forget⟩
         · by_cases c6 : 900000 < now
           · obtain ⟨hv0, hS0, hn0⟩ := LV.new (n := 32) (by omega) (by omega) h22.1 h22.2
             rw [hS0] at hv0 ⊢
             refine W.region ?_
             refine omv ?_
             refine ov (V_eqlP (by kernel_rfl) rfl rfl) ?_
             refine omv ?_
             refine oy rfl rfl ?_
             refine omv ?_
             refine oy rfl rfl ?_
             refine ov (v2 V_lss) ?_
             refine ov (V_pick_f rfl rfl rfl) ?_
             refine omv ?_
             refine oy rfl (decide_eq_false c1) ?_
             refine omv ?_
             refine oy rfl (decide_eq_false c1) ?_
             refine ov (v2 V_gtr) ?_
             refine ov (V_pick_f rfl (decide_eq_false c1) rfl) ?_
             refine omv ?_
             refine oy rfl (decide_eq_false (by omega)) ?_
             refine omv ?_
             refine oy rfl (decide_eq_false (by omega)) ?_
             refine ov (v2 V_lss) ?_
             refine ov (V_pick_f rfl (decide_eq_false (by omega)) rfl) ?_
             refine omv ?_
             refine on rfl (decide_eq_true c3) ?_
             refine on rfl (decide_eq_true c3) ?_
             refine ov (V_pick_t rfl (decide_eq_true c3) rfl) ?_
             refine omv ?_
             refine on rfl rfl ?_
             refine on rfl rfl ?_
             refine ov (V_pick_t rfl rfl rfl) ?_
             refine omv ?_
             refine on rfl rfl ?_
             refine on rfl rfl ?_
             refine ov (V_pick_t rfl rfl rfl) ?_
             refine nq ?_
             refine W.cond_true rfl rfl ?_
             refine sr ?_
             refine omv ?_
             refine omv ?_
             refine oy rfl rfl ?_
             refine omv ?_
             refine oy rfl rfl ?_
             refine ov (V_neqP (by kernel_rfl) rfl rfl) ?_
             refine ov (V_pick_t rfl rfl rfl) ?_
             refine oas ?_
             refine nq ?_
             refine W.ret ?_
             refine WQ.then_ret ?_
             refine WQ.ret1 Try.results6 (.tmp rfl) ?_
             intro w' hp; exact ⟨by first | rfl | (simp; done) | (simp [*]; done) | simp_all, hp.forget⟩
           · obtain ⟨hv0, hS0, hn0⟩ := LV.new (n := 32) (by omega) (by omega) h22.1 h22.2
             rw [hS0] at hv0 ⊢
             refine W.region ?_
             refine omv ?_
             refine ov (V_eqlP (by kernel_rfl) rfl rfl) ?_
             refine omv ?_
             refine oy rfl rfl ?_
             refine omv ?_
             refine oy rfl rfl ?_
             refine ov (v2 V_lss) ?_
             refine ov (V_pick_f rfl rfl rfl) ?_
             refine omv ?_
             refine oy rfl (decide_eq_false c1) ?_
             refine omv ?_
             refine oy rfl (decide_eq_false c1) ?_
             refine ov (v2 V_gtr) ?_
             refine ov (V_pick_f rfl (decide_eq_false c1) rfl) ?_
             refine omv ?_
             refine oy rfl (decide_eq_false (by omega)) ?_
             refine omv ?_
             refine oy rfl (decide_eq_false (by omega)) ?_
             refine ov (v2 V_lss) ?_
             refine ov (V_pick_f rfl (decide_eq_false (by omega)) rfl) ?_
             refine omv ?_
             refine on rfl (decide_eq_true c3) ?_
             refine on rfl (decide_eq_true c3) ?_
             refine ov (V_pick_t rfl (decide_eq_true c3) rfl) ?_
             refine omv ?_
             refine on rfl rfl ?_
             refine on rfl rfl ?_
             refine ov (V_pick_t rfl rfl rfl) ?_
             refine omv ?_
             refine on rfl rfl ?_
             refine on rfl rfl ?_
             refine ov (V_pick_t rfl rfl rfl) ?_
             refine nq ?_
             refine W.cond_true rfl rfl ?_
             refine sr ?_
             refine omv ?_
             refine omv ?_
             refine oy rfl rfl ?_
             refine omv ?_
             refine oy rfl rfl ?_
             refine ov (V_neqP (by kernel_rfl) rfl rfl) ?_
             refine ov (V_pick_t rfl rfl rfl) ?_
             refine oas ?_
             refine nq ?_
             refine W.ret ?_
             refine WQ.then_ret ?_
             refine WQ.ret1 Try.results6 (.tmp rfl) ?_
             intro w' hp; exact ⟨by first | rfl | (simp; done) | (simp [*]; done) | simp_all, hp.forget⟩
     · by_cases c4 : 10 < many
       · by_cases c5 : now < 0
         · by_cases c6 : 900000 < now
           · obtain ⟨hv0, hS0, hn0⟩ := LV.new (n := 32) (by omega) (by omega) h22.1 h22.2
             rw [hS0] at hv0 ⊢
             refine W.region ?_
             refine omv ?_
             refine ov (V_eqlP (by kernel_rfl) rfl rfl) ?_
             refine omv ?_
             refine oy rfl rfl ?_
             refine omv ?_
             refine oy rfl rfl ?_
             refine ov (v2 V_lss) ?_
             refine ov (V_pick_f rfl rfl rfl) ?_
             refine omv ?_
             refine oy rfl (decide_eq_false c1) ?_
             refine omv ?_
             refine oy rfl (decide_eq_false c1) ?_
             refine ov (v2 V_gtr) ?_
             refine ov (V_pick_f rfl (decide_eq_false c1) rfl) ?_
             refine omv ?_
             refine oy rfl (decide_eq_false (by omega)) ?_
             refine omv ?_
             refine oy rfl (decide_eq_false (by omega)) ?_
             refine ov (v2 V_lss) ?_
             refine ov (V_pick_f rfl (decide_eq_false (by omega)) rfl) ?_
             refine omv ?_
             refine oy rfl (decide_eq_false c3) ?_
             refine omv ?_
             refine oy rfl (decide_eq_false c3) ?_
             refine ov (v2 V_gtr) ?_
             refine ov (V_pick_f rfl (decide_eq_false c3) rfl) ?_
             refine omv ?_
             refine on rfl (decide_eq_true (by omega)) ?_
             refine on rfl (decide_eq_true (by omega)) ?_
             refine ov (V_pick_t rfl (decide_eq_true (by omega)) rfl) ?_
             refine omv ?_
             refine on rfl rfl ?_
             refine on rfl rfl ?_
             refine ov (V_pick_t rfl rfl rfl) ?_
             refine nq ?_
             refine W.cond_true rfl rfl ?_
             refine sr ?_
             refine omv ?_
             refine omv ?_
             refine oy rfl rfl ?_
             refine omv ?_
             refine oy rfl rfl ?_
             refine ov (V_neqP (by kernel_rfl) rfl rfl) ?_
             refine ov (V_pick_t rfl rfl rfl) ?_
             refine oas ?_
             refine nq ?_
             refine W.ret ?_
             refine WQ.then_ret ?_
             refine WQ.ret1 Try.results6 (.tmp rfl) ?_
             intro w' hp; exact ⟨by first | rfl | (simp; done) | (simp [*]; done) | simp_all, hp.forget⟩
           · obtain ⟨hv0, hS0, hn0⟩ := LV.new (n := 32) (by omega) (by omega) h22.1 h22.2
             rw [hS0] at hv0 ⊢
             refine W.region ?_
             refine omv ?_
             refine ov (V_eqlP (by kernel_rfl) rfl rfl) ?_
             refine omv ?_
             refine oy rfl rfl ?_
             refine omv ?_
             refine oy rfl rfl ?_
             refine ov (v2 V_lss) ?_
             refine ov (V_pick_f rfl rfl rfl) ?_
             refine omv ?_
             refine oy rfl (decide_eq_false c1) ?_
             refine omv ?_
             refine oy rfl (decide_eq_false c1) ?_
             refine ov (v2 V_gtr) ?_
             refine ov (V_pick_f rfl (decide_eq_false c1) rfl) ?_
             refine omv ?_
             refine oy rfl (decide_eq_false (by omega)) ?_
             refine omv ?_
             refine oy rfl (decide_eq_false (by omega)) ?_
             refine ov (v2 V_lss) ?_
             refine ov (V_pick_f rfl (decide_eq_false (by omega)) rfl) ?_
             refine omv ?_
             refine oy rfl (decide_eq_false c3) ?_
             refine omv ?_
             refine oy rfl (decide_eq_false c3) ?_
             refine ov (v2 V_gtr) ?_
             refine ov (V_pick_f rfl (decide_eq_false c3) rfl) ?_
             refine omv ?_
             refine on rfl (decide_eq_true (by omega)) ?_
             refine on rfl (decide_eq_true (by omega)) ?_
             refine ov (V_pick_t rfl (decide_eq_true (by omega)) rfl) ?_
             refine omv ?_
             refine on rfl rfl ?_
             refine on rfl rfl ?_
             refine ov (V_pick_t rfl rfl rfl) ?_
             refine nq ?_
             refine W.cond_true rfl rfl ?_
             refine sr ?_
             refine omv ?_
             refine omv ?_
             refine oy rfl rfl ?_
             refine omv ?_
             refine oy rfl rfl ?_
             refine ov (V_neqP (by kernel_rfl) rfl rfl) ?_
             refine ov (V_pick_t rfl rfl rfl) ?_
             refine oas ?_
             refine nq ?_
             refine W.ret ?_
             refine WQ.then_ret ?_
             refine WQ.ret1 Try.results6 (.tmp rfl) ?_
             intro w' hp; exact ⟨by first | rfl | (simp; done) | (simp [*]; done) | simp_all, hp.forget⟩
         · by_cases c6 : 900000 < now
           · obtain ⟨hv0, hS0, hn0⟩ := LV.new (n := 32) (by omega) (by omega) h22.1 h22.2
             rw [hS0] at hv0 ⊢
             refine W.region ?_
             refine omv ?_
             refine ov (V_eqlP (by kernel_rfl) rfl rfl) ?_
             refine omv ?_
             refine oy rfl rfl ?_
             refine omv ?_
             refine oy rfl rfl ?_
             refine ov (v2 V_lss) ?_
             refine ov (V_pick_f rfl rfl rfl) ?_
             refine omv ?_
             refine oy rfl (decide_eq_false c1) ?_
             refine omv ?_
             refine oy rfl (decide_eq_false c1) ?_
             refine ov (v2 V_gtr) ?_
             refine ov (V_pick_f rfl (decide_eq_false c1) rfl) ?_
             refine omv ?_
             refine oy rfl (decide_eq_false (by omega)) ?_
             refine omv ?_
             refine oy rfl (decide_eq_false (by omega)) ?_
             refine ov (v2 V_lss) ?_
             refine ov (V_pick_f rfl (decide_eq_false (by omega)) rfl) ?_
             refine omv ?_
             refine oy rfl (decide_eq_false c3) ?_
             refine omv ?_
             refine oy rfl (decide_eq_false c3) ?_
             refine ov (v2 V_gtr) ?_
             refine ov (V_pick_f rfl (decide_eq_false c3) rfl) ?_
             refine omv ?_
             refine on rfl (decide_eq_true (by omega)) ?_
             refine on rfl (decide_eq_true (by omega)) ?_
             refine ov (V_pick_t rfl (decide_eq_true (by omega)) rfl) ?_
             refine omv ?_
             refine on rfl rfl ?_
             refine on rfl rfl ?_
             refine ov (V_pick_t rfl rfl rfl) ?_
             refine nq ?_
             refine W.cond_true rfl rfl ?_
             refine sr ?_
             refine omv ?_
             refine omv ?_
             refine oy rfl rfl ?_
             refine omv ?_
             refine oy rfl rfl ?_
             refine ov (V_neqP (by kernel_rfl) rfl rfl) ?_
             refine ov (V_pick_t rfl rfl rfl) ?_
             refine oas ?_
             refine nq ?_
             refine W.ret ?_
             refine WQ.then_ret ?_
             refine WQ.ret1 Try.results6 (.tmp rfl) ?_
             intro w' hp; exact ⟨by first | rfl | (simp; done) | (simp [*]; done) | simp_all, hp.forget⟩
           · obtain ⟨hv0, hS0, hn0⟩ := LV.new (n := 32) (by omega) (by omega) h22.1 h22.2
             rw [hS0] at hv0 ⊢
             refine W.region ?_
             refine omv ?_
             refine ov (V_eqlP (by kernel_rfl) rfl rfl) ?_
             refine omv ?_
             refine oy rfl rfl ?_
             refine omv ?_
             refine oy rfl rfl ?_
             refine ov (v2 V_lss) ?_
             refine ov (V_pick_f rfl rfl rfl) ?_
             refine omv ?_
             refine oy rfl (decide_eq_false c1) ?_
             refine omv ?_
             refine oy rfl (decide_eq_false c1) ?_
             refine ov (v2 V_gtr) ?_
             refine ov (V_pick_f rfl (decide_eq_false c1) rfl) ?_
             refine omv ?_
             refine oy rfl (decide_eq_false (by omega)) ?_
             refine omv ?_
             refine oy rfl (decide_eq_false (by omega)) ?_
             refine ov (v2 V_lss) ?_
             refine ov (V_pick_f rfl (decide_eq_false (by omega)) rfl) ?_
             refine omv ?_
             refine oy rfl (decide_eq_false c3) ?_
             refine omv ?_
             refine oy rfl (decide_eq_false c3) ?_
             refine ov (v2 V_gtr) ?_
             refine ov (V_pick_f rfl (decide_eq_false c3) rfl) ?_
             refine omv ?_
             refine on rfl (decide_eq_true (by omega)) ?_
             refine on rfl (decide_eq_true (by omega)) ?_
             refine ov (V_pick_t rfl (decide_eq_true (by omega)) rfl) ?_
             refine omv ?_
             refine on rfl rfl ?_
             refine on rfl rfl ?_
             refine ov (V_pick_t rfl rfl rfl) ?_
             refine nq ?_
             refine W.cond_true rfl rfl ?_
             refine sr ?_
             refine omv ?_
             refine omv ?_
             refine oy rfl rfl ?_
             refine omv ?_
             refine oy rfl rfl ?_
             refine ov (V_neqP (by kernel_rfl) rfl rfl) ?_
             refine ov (V_pick_t rfl rfl rfl) ?_
             refine oas ?_
             refine nq ?_
             refine W.ret ?_
             refine WQ.then_ret ?_
             refine WQ.ret1 Try.results6 (.tmp rfl) ?_
             intro w' hp; exact ⟨by first | rfl | (simp; done) | (simp [*]; done) | simp_all, hp.forget⟩
       · by_cases c5 : now < 0
         · by_cases c6 : 900000 < now
           · obtain ⟨hv0, hS0, hn0⟩ := LV.new (n := 32) (by omega) (by omega) h22.1 h22.2
             rw [hS0] at hv0 ⊢
             refine W.region ?_
             refine omv ?_
             refine ov (V_eqlP (by kernel_rfl) rfl rfl) ?_
             refine omv ?_
             refine oy rfl rfl ?_
             refine omv ?_
             refine oy rfl rfl ?_
             refine ov (v2 V_lss) ?_
             refine ov (V_pick_f rfl rfl rfl) ?_
             refine omv ?_
             refine oy rfl (decide_eq_false c1) ?_
             refine omv ?_
             refine oy rfl (decide_eq_false c1) ?_
             refine ov (v2 V_gtr) ?_
             refine ov (V_pick_f rfl (decide_eq_false c1) rfl) ?_
             refine omv ?_
             refine oy rfl (decide_eq_false (by omega)) ?_
             refine omv ?_
             refine oy rfl (decide_eq_false (by omega)) ?_
             refine ov (v2 V_lss) ?_
             refine ov (V_pick_f rfl (decide_eq_false (by omega)) rfl) ?_
             refine omv ?_
             refine oy rfl (decide_eq_false c3) ?_
             refine omv ?_
             refine oy rfl (decide_eq_false c3) ?_
             refine ov (v2 V_gtr) ?_
             refine ov (V_pick_f rfl (decide_eq_false c3) rfl) ?_
             refine omv ?_
             refine oy rfl (decide_eq_false (by omega)) ?_
             refine omv ?_
             refine oy rfl (decide_eq_false (by omega)) ?_
             refine ov (v2 V_lss) ?_
             refine ov (V_pick_f rfl (decide_eq_false (by omega)) rfl) ?_
             refine omv ?_
             refine on rfl (decide_eq_true c5) ?_
             refine on rfl (decide_eq_true c5) ?_
             refine ov (V_pick_t rfl (decide_eq_true c5) rfl) ?_
             refine nq ?_
             refine W.cond_true rfl rfl ?_
             refine sr ?_
             refine omv ?_
             refine omv ?_
             refine oy rfl rfl ?_
             refine omv ?_
             refine oy rfl rfl ?_
             refine ov (V_neqP (by kernel_rfl) rfl rfl) ?_
             refine ov (V_pick_t rfl rfl rfl) ?_
             refine oas ?_
             refine nq ?_
             refine W.ret ?_
             refine WQ.then_ret ?_
             refine WQ.ret1 Try.results6 (.tmp rfl) ?_
             intro w' hp; exact ⟨by first | rfl | (simp; done) | (simp [*]; done) | simp_all, hp.forget⟩
           · obtain ⟨hv0, hS0, hn0⟩ := LV.new (n := 32) (by omega) (by omega) h22.1 h22.2
             rw [hS0] at hv0 ⊢
             refine W.region ?_
             refine omv ?_
             refine ov (V_eqlP (by kernel_rfl) rfl rfl) ?_
             refine omv ?_
             refine oy rfl rfl ?_
             refine omv ?_
             refine oy rfl rfl ?_
             refine ov (v2 V_lss) ?_
             refine ov (V_pick_f rfl rfl rfl) ?_
             refine omv ?_
             refine oy rfl (decide_eq_false c1) ?_
             refine omv ?_
             refine oy rfl (decide_eq_false c1) ?_
             refine ov (v2 V_gtr) ?_
             refine ov (V_pick_f rfl (decide_eq_false c1) rfl) ?_
             refine omv ?_
             refine oy rfl (decide_eq_false (by omega)) ?_
             refine omv ?_
             refine oy rfl (decide_eq_false (by omega)) ?_
             refine ov (v2 V_lss) ?_
             refine ov (V_pick_f rfl (decide_eq_false (by omega)) rfl) ?_
             refine omv ?_
             refine oy rfl (decide_eq_false c3) ?_
             refine omv ?_
             refine oy rfl (decide_eq_false c3) ?_
             refine ov (v2 V_gtr) ?_
             refine ov (V_pick_f rfl (decide_eq_false c3) rfl) ?_
             refine omv ?_
             refine oy rfl (decide_eq_false (by omega)) ?_
             refine omv ?_
             refine oy rfl (decide_eq_false (by omega)) ?_
             refine ov (v2 V_lss) ?_
             refine ov (V_pick_f rfl (decide_eq_false (by omega)) rfl) ?_
             refine omv ?_
             refine on rfl (decide_eq_true c5) ?_
             refine on rfl (decide_eq_true c5) ?_
             refine ov (V_pick_t rfl (decide_eq_true c5) rfl) ?_
             refine nq ?_
             refine W.cond_true rfl rfl ?_
             refine sr ?_
             refine omv ?_
             refine omv ?_
             refine oy rfl rfl ?_
             refine omv ?_
             refine oy rfl rfl ?_
             refine ov (V_neqP (by kernel_rfl) rfl rfl) ?_
             refine ov (V_pick_t rfl rfl rfl) ?_
             refine oas ?_
             refine nq ?_
             refine W.ret ?_
             refine WQ.then_ret ?_
             refine WQ.ret1 Try.results6 (.tmp rfl) ?_
             intro w' hp; exact ⟨by first | rfl | (simp; done) | (simp [*]; done) | simp_all, hp.forget⟩
         · by_cases c6 : 900000 < now
           · obtain ⟨hv0, hS0, hn0⟩ := LV.new (n := 32) (by omega) (by omega) h22.1 h22.2
             rw [hS0] at hv0 ⊢
             refine W.region ?_
             refine omv ?_
             refine ov (V_eqlP (by kernel_rfl) rfl rfl) ?_
             refine omv ?_
             refine oy rfl rfl ?_
             refine omv ?_
             refine oy rfl rfl ?_
             refine ov (v2 V_lss) ?_
             refine ov (V_pick_f rfl rfl rfl) ?_
             refine omv ?_
             refine oy rfl (decide_eq_false c1) ?_
             refine omv ?_
             refine oy rfl (decide_eq_false c1) ?_
             refine ov (v2 V_gtr) ?_
             refine ov (V_pick_f rfl (decide_eq_false c1) rfl) ?_
             refine omv ?_
             refine oy rfl (decide_eq_false (by omega)) ?_
             refine omv ?_
             refine oy rfl (decide_eq_false (by omega)) ?_
             refine ov (v2 V_lss) ?_
             refine ov (V_pick_f rfl (decide_eq_false (by omega)) rfl) ?_
             refine omv ?_
             refine oy rfl (decide_eq_false c3) ?_
             refine omv ?_
             refine oy rfl (decide_eq_false c3) ?_
             refine ov (v2 V_gtr) ?_
             refine ov (V_pick_f rfl (decide_eq_false c3) rfl) ?_
             refine omv ?_
             refine oy rfl (decide_eq_false (by omega)) ?_
             refine omv ?_
             refine oy rfl (decide_eq_false (by omega)) ?_
             refine ov (v2 V_lss) ?_
             refine ov (V_pick_f rfl (decide_eq_false (by omega)) rfl) ?_
             refine omv ?_
             refine oy rfl (decide_eq_false c5) ?_
             refine omv ?_
             refine oy rfl (decide_eq_false c5) ?_
             refine ov (v2 V_gtr) ?_
             refine ov (V_pick_f rfl (decide_eq_false c5) rfl) ?_
             refine nq ?_
             refine W.cond_true rfl (decide_eq_true (by omega)) ?_
             refine sr ?_
             refine omv ?_
             refine omv ?_
             refine oy rfl rfl ?_
             refine omv ?_
             refine oy rfl rfl ?_
             refine ov (V_neqP (by kernel_rfl) rfl rfl) ?_
             refine ov (V_pick_t rfl rfl rfl) ?_
             refine oas ?_
             refine nq ?_
             refine W.ret ?_
             refine WQ.then_ret ?_
             refine WQ.ret1 Try.results6 (.tmp rfl) ?_
             intro w' hp; exact ⟨by first | rfl | (simp; done) | (simp [*]; done) | simp_all, hp.forget⟩
           · obtain ⟨hv0, hS0, hn0⟩ := LV.new (n := 32) (by omega) (by omega) h22.1 h22.2
             rw [hS0] at hv0 ⊢
             refine W.region ?_
             refine omv ?_
             refine ov (V_eqlP (by kernel_rfl) rfl rfl) ?_
             refine omv ?_
             refine oy rfl rfl ?_
             refine omv ?_
             refine oy rfl rfl ?_
             refine ov (v2 V_lss) ?_
             refine ov (V_pick_f rfl rfl rfl) ?_
             refine omv ?_
             refine oy rfl (decide_eq_false c1) ?_
             refine omv ?_
             refine oy rfl (decide_eq_false c1) ?_
             refine ov (v2 V_gtr) ?_
             refine ov (V_pick_f rfl (decide_eq_false c1) rfl) ?_
             refine omv ?_
             refine oy rfl (decide_eq_false (by omega)) ?_
             refine omv ?_
             refine oy rfl (decide_eq_false (by omega)) ?_
             refine ov (v2 V_lss) ?_
             refine ov (V_pick_f rfl (decide_eq_false (by omega)) rfl) ?_
             refine omv ?_
             refine oy rfl (decide_eq_false c3) ?_
             refine omv ?_
             refine oy rfl (decide_eq_false c3) ?_
             refine ov (v2 V_gtr) ?_
             refine ov (V_pick_f rfl (decide_eq_false c3) rfl) ?_
             refine omv ?_
             refine oy rfl (decide_eq_false (by omega)) ?_
             refine omv ?_
             refine oy rfl (decide_eq_false (by omega)) ?_
             refine ov (v2 V_lss) ?_
             refine ov (V_pick_f rfl (decide_eq_false (by omega)) rfl) ?_
             refine omv ?_
             refine oy rfl (decide_eq_false c5) ?_
             refine omv ?_
             refine oy rfl (decide_eq_false c5) ?_
             refine ov (v2 V_gtr) ?_
             refine ov (V_pick_f rfl (decide_eq_false c5) rfl) ?_
             refine nq ?_
             refine W.cond_false rfl (decide_eq_false (by omega)) ?_
             refine W.skip ?_
             refine WQ.then ?_
             refine sr ?_
             refine omv ?_
             first | refine ov vaddN ?_ | refine ov vadd ?_
             first | refine ov vrem ?_ | refine ov (V_rem rfl rfl (by omega)) ?_
             refine oas ?_
             refine nq ?_
             refine W.seq ?_
             refine W.seq ?_
             obtain ⟨ho1, ho2⟩ : 0 ≤ ((a + 1) % 8) ∧ ((a + 1) % 8) < 8 := by omega
             have hao : a ≠ ((a + 1) % 8) := by omega
             obtain ⟨m, rfl⟩ : ∃ m : Nat, many = m := ⟨many.toNat, by omega⟩
             refine W.region ?_
             refine oas ?_
             refine nq ?_
             refine W.block ?_
             -- LOOP 0
             refine W.pick (S' := [(13, _), (0, _), (1, _), (2, _), (6, _), (7, _), (8, _), (11, _), (12, _), (50, _)]) [13, 0, 1, 2, 6, 7, 8, 11, 12, 50] rfl ?_
             refine W.loopG (σ := Nat × DS × GR × LS) (fun ⟨i, D, g, S⟩ => i ≤ m ∧ LV D g S 32 ∧ Th S a ((a + 1) % 8) now i ∧ g.rs.length ≤ 2 * i) (fun ⟨i, D, g, S⟩ => [(13, .int .i64 (i : Nat))]) (fun ⟨i, D, g, S⟩ => [(b17.d, .cells [(1, [.slice (some ⟨b17.s, 0, none⟩) D.n D.n]), (1, [.map (some b17.m)]), (1, [.int .i64 D.fuse]), (1, [.bool D.dead])] 101), (b17.s, .cells [(D.n * 64, iv .u8 D.sure.flatten)] 58), (b17.m, .obj (mapO .i64 (D.m.map sE) D.ck)), (r22.1, .cells [(1, [.pointer (some ⟨b17.d, 0, none⟩)]), (1, [.int .i64 (g.rs.length : Nat)]), (1, [.int .i64 (D.n : Nat)]), (1, [.slice (gA g.o) g.rs.length (gC g.o)])] 103), (r22.2.1, .cells [(1, [.pointer (some ⟨r22.1, 0, none⟩)]), (1, [.map (some r22.2.2.1)])] 121), (r22.2.2.1, .obj (mapO .i64 (S.m.map (gE stkV)) S.ck))]) [] (fun ⟨i, D, g, S⟩ => gRL 5 31 g) (fun ⟨i, D, g, S⟩ => m - i) (0, newD 32, r22.2.2.2, ⟨[], 0⟩) rfl cov ⟨Nat.zero_le _, hv0, .nil, by omega⟩ ?_
             rintro ⟨i, D, g, S⟩ ⟨hi, hv, hT, hg⟩; dsimp only at hi hv hT hg ⊢
             refine W.seq ?_
             refine sr ?_
             refine omv ?_
             refine omv ?_
             refine ov (v2 V_lss) ?_
             refine nq ?_
             refine W.cond_dec rfl (fun g1 => ?_) (fun g1 => ?_)
             · refine W.skip ?_
               refine WQ.then ?_
               refine W.seq ?_
               refine W.block ?_
               refine W.seq ?_
               obtain ⟨ht1, ht2, ht3⟩ := hT.one (by omega) hao
               have hT2 := hT.two (by omega) hao
               have hc84 := hT2.ca (now + 50)
               rw [if_pos (cnB_in (by omega))] at hc84
               refine W.region ?_
               refine omv ?_
               refine omv ?_
               refine omv ?_
               refine omv ?_
               refine cgP _ rfl (fun w hp => add23_calls b17 D hv.ok r22.1 g hv.gok hv.gn r22.2.1 r22.2.2.1 S hv.ls a i now w (HP.here hp cov)) (fun r68 h68 => ?_)
               simp only [List.cons_append, List.nil_append, List.append_nil, List.append_assoc]
               refine WL.back (gRL 5 31 r68) ?_
               simp only [List.cons_append, List.nil_append, List.append_nil, List.append_assoc]
               obtain ⟨e1, e2, hv1, hn1⟩ := hv.add ⟨by omega, by omega⟩ ⟨by omega, by omega⟩ ⟨by omega, by omega⟩ ht1 (by omega) (by have := hT.len; omega) h68
               rw [e1, e2]
               generalize goD D g.rs.length (adQ S a i now) = D1 at hv1 ⊢
               refine ov (v2 V_neq) ?_
               refine omv ?_
               refine oy rfl (by decide) ?_
               refine omv ?_
               refine oy rfl (by decide) ?_
               refine omv ?_
               refine oy rfl (by decide) ?_
               refine omv ?_
               refine oy rfl (by decide) ?_
               first | refine ov vaddN ?_ | refine ov vadd ?_
               refine oy rfl (by decide) ?_
               refine omv ?_
               refine oy rfl (by decide) ?_
               refine cgP _ rfl (fun w hp => add23_calls b17 D1 hv1.ok r22.1 r68 hv1.gok hv1.gn r22.2.1 r22.2.2.1 (S.put i ⟨a, now, false⟩) hv1.ls ((a + 1) % 8) (100 + i) now w (HP.here hp cov)) (fun r76 h76 => ?_)
               simp only [List.cons_append, List.nil_append, List.append_nil, List.append_assoc]
               refine WL.back (gRL 5 31 r76) ?_
               simp only [List.cons_append, List.nil_append, List.append_nil, List.append_assoc]
               obtain ⟨e3, e4, hv2, hn2⟩ := hv1.add ⟨by omega, by omega⟩ ⟨by omega, by omega⟩ ⟨by omega, by omega⟩ ht2 (by omega) (by omega) h76
               rw [e3, e4]
               generalize goD D1 r68.rs.length (adQ (S.put i ⟨a, now, false⟩) ((a + 1) % 8) (100 + i) now) = D2 at hv2 ⊢
               refine oy rfl (by decide) ?_
               refine ov (v2 V_neq) ?_
               refine ov (V_pick_f rfl (by decide) rfl) ?_
               refine omv ?_
               refine oy rfl (by decide) ?_
               refine omv ?_
               refine oy rfl (by decide) ?_
               refine omv ?_
               refine oy rfl (by decide) ?_
               refine omv ?_
               refine oy rfl (by decide) ?_
               first | refine ov vaddN ?_ | refine ov vadd ?_
               refine oy rfl (by decide) ?_
               refine cms rfl (fun w hp => count23_calls r22.2.1 r22.2.2.1 r22.1 ((S.put i ⟨a, now, false⟩).put (100 + i) ⟨((a + 1) % 8), now, false⟩) hv2.ls hv2.sm a (now + 50) (by omega) w (HP.here hp cov)) ?_
               refine oy rfl (by decide) ?_
               refine omv ?_
               refine oy rfl (by decide) ?_
               first | refine ov vaddN ?_ | refine ov vadd ?_
               refine oy rfl (by decide) ?_
               refine ov (v2 V_neq) ?_
               refine ov (V_pick_f rfl (by decide) rfl) ?_
               refine omv ?_
               refine oy rfl (by rw [hc84]; simp) ?_
               refine omv ?_
               refine oy rfl (by rw [hc84]; simp) ?_
               refine omv ?_
               refine oy rfl (by rw [hc84]; simp) ?_
               refine omv ?_
               refine oy rfl (by rw [hc84]; simp) ?_
               first | refine ov vaddN ?_ | refine ov vadd ?_
               refine oy rfl (by rw [hc84]; simp) ?_
               refine cms rfl (fun w hp => susp23_calls r22.2.1 r22.2.2.1 r22.1 ((S.put i ⟨a, now, false⟩).put (100 + i) ⟨((a + 1) % 8), now, false⟩) hv2.ls hv2.sm a (now + 50) (by omega) w (HP.here hp cov)) ?_
               refine oy rfl (by rw [hc84]; simp) ?_
               refine omv ?_
               refine oy rfl (by rw [hc84]; simp) ?_
               refine ov (v2 V_geq) ?_
               refine oy rfl (by rw [hc84]; simp) ?_
               refine ov (V_neqB (by kernel_rfl) rfl rfl) ?_
               refine ov (V_pick_f rfl (by rw [hc84]; simp) rfl) ?_
               refine nq ?_
               refine W.cond_false rfl (by rw [hc84]; simp; omega) ?_
               refine W.skip ?_
               refine WQ.block_normal ?_
               refine WQ.then ?_
               refine W.region ?_
               refine omv ?_
               first | refine ov vaddN ?_ | refine ov vadd ?_
               refine oas ?_
               refine WL.nil ?_
               exact ag (i + 1, D2, r76, ((S.put i ⟨a, now, false⟩).put (100 + i) ⟨((a + 1) % 8), now, false⟩)) [13, 0, 1, 2, 6, 7, 8, 11, 12, 50] (by (try dsimp only); exact ⟨by omega, hv2, hT2, by omega⟩) (by (try dsimp only); omega) rfl cov
             · refine W.exit ?_
               refine WQ.then_exit ?_
               refine WQ.then_exit ?_
               refine WQ.block_hit ?_
               refine WQ.then ?_
               refine W.seq ?_
               refine W.seq ?_
               have him : m = i := by omega
               subst him
               refine W.region ?_
               refine oas ?_
               refine nq ?_
               refine W.block ?_
               -- LOOP 1
               refine W.pick (S' := [(14, _), (0, _), (1, _), (2, _), (6, _), (7, _), (8, _), (11, _), (12, _), (13, _), (50, _), (61, _)]) [14, 0, 1, 2, 6, 7, 8, 11, 12, 13, 50, 61] rfl ?_
               refine W.loopG (σ := Nat × DS × GR × LS) (fun ⟨i, D, g, S⟩ => i ≤ m ∧ LV D g S 32 ∧ Tc S a ((a + 1) % 8) now m i ∧ g.rs.length ≤ 2 * m + i) (fun ⟨i, D, g, S⟩ => [(14, .int .i64 (i : Nat))]) (fun ⟨i, D, g, S⟩ => [(b17.d, .cells [(1, [.slice (some ⟨b17.s, 0, none⟩) D.n D.n]), (1, [.map (some b17.m)]), (1, [.int .i64 D.fuse]), (1, [.bool D.dead])] 101), (b17.s, .cells [(D.n * 64, iv .u8 D.sure.flatten)] 58), (b17.m, .obj (mapO .i64 (D.m.map sE) D.ck)), (r22.1, .cells [(1, [.pointer (some ⟨b17.d, 0, none⟩)]), (1, [.int .i64 (g.rs.length : Nat)]), (1, [.int .i64 (D.n : Nat)]), (1, [.slice (gA g.o) g.rs.length (gC g.o)])] 103), (r22.2.1, .cells [(1, [.pointer (some ⟨r22.1, 0, none⟩)]), (1, [.map (some r22.2.2.1)])] 121), (r22.2.2.1, .obj (mapO .i64 (S.m.map (gE stkV)) S.ck))]) [] (fun ⟨i, D, g, S⟩ => gRL 5 31 g) (fun ⟨i, D, g, S⟩ => m - i) (0, D, g, S) rfl cov ⟨Nat.zero_le _, hv, hT.tc, by omega⟩ ?_
               rintro ⟨i, D, g, S⟩ ⟨hi, hv, hT, hg⟩; dsimp only at hi hv hT hg ⊢
               refine W.seq ?_
               refine sr ?_
               refine omv ?_
               refine omv ?_
               refine ov (v2 V_lss) ?_
               refine nq ?_
               refine W.cond_dec rfl (fun g2 => ?_) (fun g2 => ?_)
               · refine W.skip ?_
                 refine WQ.then ?_
                 refine W.seq ?_
                 refine W.block ?_
                 refine sr ?_
                 refine omv ?_
                 refine omv ?_
                 first | refine ov vaddN ?_ | refine ov vadd ?_
                 refine omv ?_
                 refine cgP _ rfl (fun w hp => clear23_calls b17 D hv.ok r22.1 g hv.gok hv.gn r22.2.1 r22.2.2.1 S hv.ls (100 + i) now w (HP.here hp cov)) (fun r108 h108 => ?_)
                 simp only [List.cons_append, List.nil_append, List.append_nil, List.append_assoc]
                 refine WL.back (gRL 5 31 r108) ?_
                 simp only [List.cons_append, List.nil_append, List.append_nil, List.append_assoc]
                 obtain ⟨e1, e2, hv1, hn1⟩ := hv.clear (s := ⟨((a + 1) % 8), now, false⟩) ⟨by omega, by omega⟩ (hT.yes i (Nat.le_refl _) (by omega)) rfl (by omega) (by have := hT.len; omega) h108
                 rw [e1, e2]
                 generalize goD D g.rs.length (clQ S (100 + i) now) = D1 at hv1 ⊢
                 refine ov (v2 V_neq) ?_
                 refine nq ?_
                 refine W.cond_false rfl (by decide) ?_
                 refine W.skip ?_
                 refine WQ.block_normal ?_
                 refine WQ.then ?_
                 refine W.region ?_
                 refine omv ?_
                 first | refine ov vaddN ?_ | refine ov vadd ?_
                 refine oas ?_
                 refine WL.nil ?_
                 exact ag (i + 1, D1, r108, (S.put (100 + i) ⟨((a + 1) % 8), now, true⟩)) [14, 0, 1, 2, 6, 7, 8, 11, 12, 13, 50, 61] (by (try dsimp only); exact ⟨by omega, hv1, hT.step (by omega) hao, by omega⟩) (by (try dsimp only); omega) rfl cov
               · refine W.exit ?_
                 refine WQ.then_exit ?_
                 refine WQ.then_exit ?_
                 refine WQ.block_hit ?_
                 refine WQ.then ?_
                 refine W.seq ?_
                 have him : m = i := by omega
                 subst him
                 have hc116 := hT.ca (now + 100)
                 rw [if_pos (cnB_in (by omega))] at hc116
                 have hc142 := hT.ca (now + 101)
                 rw [if_neg (cnB_out (by omega))] at hc142
                 have hc124 := hT.co now
                 rw [if_pos (cnB_in (by omega)), Nat.sub_self] at hc124
                 refine W.region ?_
                 refine omv ?_
                 refine omv ?_
                 refine oy rfl rfl ?_
                 refine omv ?_
                 refine oy rfl rfl ?_
                 refine omv ?_
                 refine oy rfl rfl ?_
                 refine omv ?_
                 refine oy rfl rfl ?_
                 first | refine ov vaddN ?_ | refine ov vadd ?_
                 refine oy rfl rfl ?_
                 refine cms rfl (fun w hp => count23_calls r22.2.1 r22.2.2.1 r22.1 S hv.ls hv.sm a (now + 100) (by omega) w (HP.here hp cov)) ?_
                 refine oy rfl rfl ?_
                 refine omv ?_
                 refine oy rfl rfl ?_
                 refine ov (v2 V_eql) ?_
                 refine ov (V_pick_t rfl rfl rfl) ?_
                 refine omv ?_
                 refine oy rfl (by rw [hc116]; simp) ?_
                 refine omv ?_
                 refine oy rfl (by rw [hc116]; simp) ?_
                 refine omv ?_
                 refine oy rfl (by rw [hc116]; simp) ?_
                 refine omv ?_
                 refine oy rfl (by rw [hc116]; simp) ?_
                 refine cms rfl (fun w hp => count23_calls r22.2.1 r22.2.2.1 r22.1 S hv.ls hv.sm ((a + 1) % 8) now (by omega) w (HP.here hp cov)) ?_
                 refine oy rfl (by rw [hc116]; simp) ?_
                 refine ov (v2 V_eql) ?_
                 refine ov (V_pick_t rfl (by rw [hc116]; simp) rfl) ?_
                 refine omv ?_
                 refine oy rfl (by rw [hc124]; rfl) ?_
                 refine omv ?_
                 refine oy rfl (by rw [hc124]; rfl) ?_
                 refine omv ?_
                 refine oy rfl (by rw [hc124]; rfl) ?_
                 refine omv ?_
                 refine oy rfl (by rw [hc124]; rfl) ?_
                 first | refine ov vaddN ?_ | refine ov vadd ?_
                 refine oy rfl (by rw [hc124]; rfl) ?_
                 refine cms rfl (fun w hp => susp23_calls r22.2.1 r22.2.2.1 r22.1 S hv.ls hv.sm a (now + 100) (by omega) w (HP.here hp cov)) ?_
                 refine oy rfl (by rw [hc124]; rfl) ?_
                 refine omv ?_
                 refine oy rfl (by rw [hc124]; rfl) ?_
                 refine ov (v2 V_geq) ?_
                 refine oy rfl (by rw [hc124]; rfl) ?_
                 refine ov (V_eqlB (by kernel_rfl) rfl rfl) ?_
                 refine ov (V_pick_t rfl (by rw [hc124]; rfl) rfl) ?_
                 refine omv ?_
                 refine oy rfl (by rw [hc116]; simp; omega) ?_
                 refine omv ?_
                 refine oy rfl (by rw [hc116]; simp; omega) ?_
                 refine omv ?_
                 refine oy rfl (by rw [hc116]; simp; omega) ?_
                 refine omv ?_
                 refine oy rfl (by rw [hc116]; simp; omega) ?_
                 first | refine ov vaddN ?_ | refine ov vadd ?_
                 refine oy rfl (by rw [hc116]; simp; omega) ?_
                 refine cms rfl (fun w hp => susp23_calls r22.2.1 r22.2.2.1 r22.1 S hv.ls hv.sm a (now + 101) (by omega) w (HP.here hp cov)) ?_
                 refine oy rfl (by rw [hc116]; simp; omega) ?_
                 refine ov vnot ?_
                 refine ov (V_pick_t rfl (by rw [hc116]; simp; omega) rfl) ?_
                 refine oas ?_
                 refine nq ?_
                 refine W.ret ?_
                 refine WQ.ret1 Try.results6 (.tmp rfl) ?_
                 intro w' hp; exact ⟨by first | rfl | (simp; done) | (simp [*]; done) | simp_all, hp.forget⟩

end Go.Proofs.Ytnpnnafcdnefiaa