/- StrikesPast: its walk. -/
import Derived.Test.YtnpnnafcdnefiaaStk6
import Derived.Test.YtnpnnafcdnefiaaSure
set_option linter.unusedVariables false
set_option linter.unusedSimpArgs false

namespace Go.Proofs.Ytnpnnafcdnefiaa
open Go.X
/-- So many strikes of one account, some taken back. -/
structure Pa (S : LS) (now : Int) (i n : Nat) : Prop where
  no : ∀ id : Int, (i : Int) ≤ id → S.get id = none
  ca : cnt S.m 3 now = n
  co : cnt S.m 4 now = 0
  len : S.m.length ≤ i
theorem Pa.nil {now : Int} : Pa ⟨[], 0⟩ now 0 0 := ⟨fun _ _ => rfl, rfl, rfl, Nat.le_refl _⟩
theorem cnB3 {t now : Int} : (cnB 3 now ⟨3, t, false⟩ = true) ↔ (t ≤ now ∧ t + 100 ≥ now) := by simp [cnB]; omega
theorem cnB4 {t now : Int} {c : Bool} : ¬ cnB 4 now ⟨3, t, c⟩ = true := by simp [cnB]
theorem cnBc {a t now : Int} : ¬ cnB a now ⟨3, t, true⟩ = true := by simp [cnB]
theorem Pa.more {S : LS} {now t : Int} {i n : Nat} (h : Pa S now i n) : Pa (S.put i ⟨3, t, false⟩) now (i + 1) (n + if t ≤ now ∧ t + 100 ≥ now then 1 else 0) := by
  have h0 := h.no i (Int.le_refl _)
  refine ⟨fun id hid => ?_, ?_, ?_, ?_⟩
  · rw [LS.get_put, if_neg (by omega)]; exact h.no id (by omega)
  · rw [cnt_new h0, h.ca]; simp only [cnB3]
  · rw [cnt_new h0, h.co, if_neg cnB4]
  · have := put_len (S := S) (i := i) (s := ⟨3, t, false⟩); have := h.len; omega
theorem Pa.back {S : LS} {now t : Int} {i n : Nat} (h : Pa S now i n) : Pa ((S.put i ⟨3, t, false⟩).put i ⟨3, t, true⟩) now (i + 1) n := by
  have h0 := h.no i (Int.le_refl _)
  have h1 : (S.put i ⟨3, t, false⟩).get i = some ⟨3, t, false⟩ := by rw [LS.get_put, if_pos rfl]
  have hl : ((S.put i ⟨3, t, false⟩).put i ⟨3, t, true⟩).m.length = (S.put i ⟨3, t, false⟩).m.length := by
    show (kput _ _ _ _).length = _
    rw [kput_len, if_pos (by rw [show kget (S.put i ⟨3, t, false⟩).m i = _ from h1]; rfl)]
  refine ⟨fun id hid => ?_, ?_, ?_, ?_⟩
  · rw [LS.get_put, if_neg (by omega), LS.get_put, if_neg (by omega)]; exact h.no id (by omega)
  · have := cnt_old (a := 3) (now := now) (s' := ⟨3, t, true⟩) h1
    rw [if_neg cnBc, cnt_new h0, h.ca] at this; omega
  · have := cnt_old (a := 4) (now := now) (s' := ⟨3, t, true⟩) h1
    rw [if_neg cnBc, cnt_new h0, h.co, if_neg cnB4] at this; omega
  · have := put_len (S := S) (i := i) (s := ⟨3, t, false⟩); have := h.len; omega

set_option maxHeartbeats 4000000 in
theorem strikesPast_calls (A : Option Addr) (n cap : Nat) (l : List Int) (A2 : Option Addr) (n2 cap2 : Nat) (l2 : List Bool) (now : Int) (w : World) (hs : SrW w 1 A n (iv .i64 l)) (hs2 : SrW w 1 A2 n2 (bv l2)) (hl2 : l2.length = n2) (hlb : ∀ x ∈ l, -9223372036854775808 ≤ x ∧ x ≤ 9223372036854775807) (hnb : -9223372036854775808 ≤ now ∧ now ≤ 9223372036854775807) :
    Calls Try.prog 5 [.slice A n cap, .slice A2 n2 cap2, .int .i64 now].toArray w fun e w' => e = .returned (.bool true) ∧ HP w w' [] [] := by
 have k0 := newD_ok (n := 64) (by omega) (by omega)
 have hl := SrW.ilen hs
 refine calls_of_W Try.func5 rfl Try.ntmps5 rfl rfl (HP.refl w []) ?_
 refine sr ?_
 refine oas ?_
 refine nx ?_
 refine cp rfl (fun w hp => awake23_calls w) ?_
 refine oas ?_
 refine nx ?_
 refine cg rfl (fun w hp => new21_calls 64 (by omega) (by omega) w) (fun b18 h18 => ?_)
 refine omv ?_
 refine ov vex ?_
 refine ov vex ?_
 refine oas ?_
 refine oas ?_
 refine nx ?_
 refine omv ?_
 refine cgP _ rfl (fun w hp => begun23_calls b18 (newD 64) k0 w (HP.here hp cov)) (fun r23 h23 => ?_)
 simp only [List.cons_append, List.nil_append, List.append_nil, List.append_assoc]
 refine WL.back (gRL 5 31 r23.2.2.2) ?_
 simp only [List.cons_append, List.nil_append, List.append_nil, List.append_assoc]
 refine omv ?_
 refine ov vex ?_
 refine ov vex ?_
 refine oas ?_
 refine oas ?_
 refine nq ?_
 refine W.seq ?_
 refine W.seq ?_
 by_cases c1 : 25 < n
 · by_cases c2 : n2 < n
   · by_cases c5 : now < 0
     · by_cases c6 : 100000 < now
       · obtain ⟨hv0, hS0, hn0⟩ := LV.new (n := 64) (by omega) (by omega) h23.1 h23.2
         rw [hS0] at hv0 ⊢
         refine W.region ?_
         refine omv ?_
         refine ov (V_eqlP (by kernel_rfl) rfl rfl) ?_
         refine omv ?_
         refine oy rfl rfl ?_
         refine omv ?_
         refine oy rfl rfl ?_
         refine ov vlenS ?_
         refine oy rfl rfl ?_
         refine ov (v2 V_gtr) ?_
         refine ov (V_pick_f rfl rfl rfl) ?_
         refine omv ?_
         refine on rfl (decide_eq_true (by omega)) ?_
         refine on rfl (decide_eq_true (by omega)) ?_
         refine on rfl (decide_eq_true (by omega)) ?_
         refine on rfl (decide_eq_true (by omega)) ?_
         refine on rfl (decide_eq_true (by omega)) ?_
         refine ov (V_pick_t rfl (decide_eq_true (by omega)) rfl) ?_
         refine omv ?_
         refine on rfl rfl ?_
         refine on rfl rfl ?_
         refine ov (V_pick_t rfl rfl rfl) ?_
         refine omv ?_
         refine on rfl rfl ?_
         refine on rfl rfl ?_
         refine ov (V_pick_t rfl rfl rfl) ?_
         refine nq ?_
         refine W.cond_true rfl rfl ?_
         refine sr ?_
         refine omv ?_
         refine omv ?_
         refine oy rfl rfl ?_
         refine omv ?_
         refine oy rfl rfl ?_
         refine ov (V_neqP (by kernel_rfl) rfl rfl) ?_
         refine ov (V_pick_t rfl rfl rfl) ?_
         refine oas ?_
         refine nq ?_
         refine W.ret ?_
         refine WQ.then_ret ?_
         refine WQ.ret1 Try.results5 (.tmp rfl) ?_
         intro w' hp; exact ⟨by first | rfl | (simp; done) | (simp [*]; done) | simp_all, hp.forget⟩
       · obtain ⟨hv0, hS0, hn0⟩ := LV.new (n := 64) (by omega) (by omega) h23.1 h23.2
         rw [hS0] at hv0 ⊢
         refine W.region ?_
         refine omv ?_
         refine ov (V_eqlP (by kernel_rfl) rfl rfl) ?_
         refine omv ?_
         refine oy rfl rfl ?_
         refine omv ?_
         refine oy rfl rfl ?_
         refine ov vlenS ?_
         refine oy rfl rfl ?_
         refine ov (v2 V_gtr) ?_
         refine ov (V_pick_f rfl rfl rfl) ?_
         refine omv ?_
         refine on rfl (decide_eq_true (by omega)) ?_
         refine on rfl (decide_eq_true (by omega)) ?_
         refine on rfl (decide_eq_true (by omega)) ?_
         refine on rfl (decide_eq_true (by omega)) ?_
         refine on rfl (decide_eq_true (by omega)) ?_
         refine ov (V_pick_t rfl (decide_eq_true (by omega)) rfl) ?_
         refine omv ?_
         refine on rfl rfl ?_
         refine on rfl rfl ?_
         refine ov (V_pick_t rfl rfl rfl) ?_
         refine omv ?_
         refine on rfl rfl ?_
         refine on rfl rfl ?_
         refine ov (V_pick_t rfl rfl rfl) ?_
         refine nq ?_
         refine W.cond_true rfl rfl ?_
         refine sr ?_
         refine omv ?_
         refine omv ?_
         refine oy rfl rfl ?_
         refine omv ?_
         refine oy rfl rfl ?_
         refine ov (V_neqP (by kernel_rfl) rfl rfl) ?_
         refine ov (V_pick_t rfl rfl rfl) ?_
         refine oas ?_
         refine nq ?_
         refine W.ret ?_
         refine WQ.then_ret ?_
         refine WQ.ret1 Try.results5 (.tmp rfl) ?_
         intro w' hp; exact ⟨by first | rfl | (simp; done) | (simp [*]; done) | simp_all, hp.forget⟩
     · by_cases c6 : 100000 < now
       · obtain ⟨hv0, hS0, hn0⟩ := LV.new (n := 64) (by omega) (by omega) h23.1 h23.2
         rw [hS0] at hv0 ⊢
         refine W.region ?_
         refine omv ?_
         refine ov (V_eqlP (by kernel_rfl) rfl rfl) ?_
         refine omv ?_
         refine oy rfl rfl ?_
         refine omv ?_
         refine oy rfl rfl ?_
         refine ov vlenS ?_
         refine oy rfl rfl ?_
         refine ov (v2 V_gtr) ?_
         refine ov (V_pick_f rfl rfl rfl) ?_
         refine omv ?_
         refine on rfl (decide_eq_true (by omega)) ?_
         refine on rfl (decide_eq_true (by omega)) ?_
         refine on rfl (decide_eq_true (by omega)) ?_
         refine on rfl (decide_eq_true (by omega)) ?_
         refine on rfl (decide_eq_true (by omega)) ?_
         refine ov (V_pick_t rfl (decide_eq_true (by omega)) rfl) ?_
         refine omv ?_
         refine on rfl rfl ?_
         refine on rfl rfl ?_
         refine ov (V_pick_t rfl rfl rfl) ?_
         refine omv ?_
         refine on rfl rfl ?_
         refine on rfl rfl ?_
         refine ov (V_pick_t rfl rfl rfl) ?_
         refine nq ?_
         refine W.cond_true rfl rfl ?_
         refine sr ?_
         refine omv ?_
         refine omv ?_
         refine oy rfl rfl ?_
         refine omv ?_
         refine oy rfl rfl ?_
         refine ov (V_neqP (by kernel_rfl) rfl rfl) ?_
         refine ov (V_pick_t rfl rfl rfl) ?_
         refine oas ?_
         refine nq ?_
         refine W.ret ?_
         refine WQ.then_ret ?_
         refine WQ.ret1 Try.results5 (.tmp rfl) ?_
         intro w' hp; exact ⟨by first | rfl | (simp; done) | (simp [*]; done) | simp_all, hp.forget⟩
       · obtain ⟨hv0, hS0, hn0⟩ := LV.new (n := 64) (by omega) (by omega) h23.1 h23.2
         rw [hS0] at hv0 ⊢
         refine W.region ?_
         refine omv ?_
         refine ov (V_eqlP (by kernel_rfl) rfl rfl) ?_
         refine omv ?_
         refine oy rfl rfl ?_
         refine omv ?_
         refine oy rfl rfl ?_
         refine ov vlenS ?_
         refine oy rfl rfl ?_
         refine ov (v2 V_gtr) ?_
         refine ov (V_pick_f rfl rfl rfl) ?_
         refine omv ?_
         refine on rfl (decide_eq_true (by omega)) ?_
         refine on rfl (decide_eq_true (by omega)) ?_
         refine on rfl (decide_eq_true (by omega)) ?_
         refine on rfl (decide_eq_true (by omega)) ?_
         refine on rfl (decide_eq_true (by omega)) ?_
         refine ov (V_pick_t rfl (decide_eq_true (by omega)) rfl) ?_
         refine omv ?_
         refine on rfl rfl ?_
         refine on rfl rfl ?_
         refine ov (V_pick_t rfl rfl rfl) ?_
         refine omv ?_
         refine on rfl rfl ?_
         refine on rfl rfl ?_
         refine ov (V_pick_t rfl rfl rfl) ?_
         refine nq ?_
         refine W.cond_true rfl rfl ?_
         refine sr ?_
         refine omv ?_
         refine omv ?_
         refine oy rfl rfl ?_
         refine omv ?_
         refine oy rfl rfl ?_
         refine ov (V_neqP (by kernel_rfl) rfl rfl) ?_
         refine ov (V_pick_t rfl rfl rfl) ?_
         refine oas ?_
         refine nq ?_
         refine W.ret ?_
         refine WQ.then_ret ?_
         refine WQ.ret1 Try.results5 (.tmp rfl) ?_
         intro w' hp; exact ⟨by first | rfl | (simp; done) | (simp [*]; done) | simp_all, hp.forget⟩
   · by_cases c5 : now < 0
     · by_cases c6 : 100000 < now
       · obtain ⟨hv0, hS0, hn0⟩ := LV.new (n := 64) (by omega) (by omega) h23.1 h23.2
         rw [hS0] at hv0 ⊢
         refine W.region ?_
         refine omv ?_
         refine ov (V_eqlP (by kernel_rfl) rfl rfl) ?_
         refine omv ?_
         refine oy rfl rfl ?_
         refine omv ?_
         refine oy rfl rfl ?_
         refine ov vlenS ?_
         refine oy rfl rfl ?_
         refine ov (v2 V_gtr) ?_
         refine ov (V_pick_f rfl rfl rfl) ?_
         refine omv ?_
         refine on rfl (decide_eq_true (by omega)) ?_
         refine on rfl (decide_eq_true (by omega)) ?_
         refine on rfl (decide_eq_true (by omega)) ?_
         refine on rfl (decide_eq_true (by omega)) ?_
         refine on rfl (decide_eq_true (by omega)) ?_
         refine ov (V_pick_t rfl (decide_eq_true (by omega)) rfl) ?_
         refine omv ?_
         refine on rfl rfl ?_
         refine on rfl rfl ?_
         refine ov (V_pick_t rfl rfl rfl) ?_
         refine omv ?_
         refine on rfl rfl ?_
         refine on rfl rfl ?_
         refine ov (V_pick_t rfl rfl rfl) ?_
         refine nq ?_
         refine W.cond_true rfl rfl ?_
         refine sr ?_
         refine omv ?_
         refine omv ?_
         refine oy rfl rfl ?_
         refine omv ?_
         refine oy rfl rfl ?_
         refine ov (V_neqP (by kernel_rfl) rfl rfl) ?_
         refine ov (V_pick_t rfl rfl rfl) ?_
         refine oas ?_
         refine nq ?_
         refine W.ret ?_
         refine WQ.then_ret ?_
         refine WQ.ret1 Try.results5 (.tmp rfl) ?_
         intro w' hp; exact ⟨by first | rfl | (simp; done) | (simp [*]; done) | simp_all, hp.forget⟩
       · obtain ⟨hv0, hS0, hn0⟩ := LV.new (n := 64) (by omega) (by omega) h23.1 h23.2
         rw [hS0] at hv0 ⊢
         refine W.region ?_
         refine omv ?_
         refine ov (V_eqlP (by kernel_rfl) rfl rfl) ?_
         refine omv ?_
         refine oy rfl rfl ?_
         refine omv ?_
         refine oy rfl rfl ?_
         refine ov vlenS ?_
         refine oy rfl rfl ?_
         refine ov (v2 V_gtr) ?_
         refine ov (V_pick_f rfl rfl rfl) ?_
         refine omv ?_
         refine on rfl (decide_eq_true (by omega)) ?_
         refine on rfl (decide_eq_true (by omega)) ?_
         refine on rfl (decide_eq_true (by omega)) ?_
         refine on rfl (decide_eq_true (by omega)) ?_
         refine on rfl (decide_eq_true (by omega)) ?_
         refine ov (V_pick_t rfl (decide_eq_true (by omega)) rfl) ?_
         refine omv ?_
         refine on rfl rfl ?_
         refine on rfl rfl ?_
         refine ov (V_pick_t rfl rfl rfl) ?_
         refine omv ?_
         refine on rfl rfl ?_
         refine on rfl rfl ?_
         refine ov (V_pick_t rfl rfl rfl) ?_
         refine nq ?_
         refine W.cond_true rfl rfl ?_
         refine sr ?_
         refine omv ?_
         refine omv ?_
         refine oy rfl rfl ?_
         refine omv ?_
         refine oy rfl rfl ?_
         refine ov (V_neqP (by kernel_rfl) rfl rfl) ?_
         refine ov (V_pick_t rfl rfl rfl) ?_
         refine oas ?_
         refine nq ?_
         refine W.ret ?_
         refine WQ.then_ret ?_
         refine WQ.ret1 Try.results5 (.tmp rfl) ?_
         intro w' hp; exact ⟨by first | rfl | (simp; done) | (simp [*]; done) | simp_all, hp.forget⟩
     · by_cases c6 : 100000 < now
       · obtain ⟨hv0, hS0, hn0⟩ := LV.new (n := 64) (by omega) (by omega) h23.1 h23.2
         rw [hS0] at hv0 ⊢
         refine W.region ?_
         refine omv ?_
         refine ov (V_eqlP (by kernel_rfl) rfl rfl) ?_
         refine omv ?_
         refine oy rfl rfl ?_
         refine omv ?_
         refine oy rfl rfl ?_
         refine ov vlenS ?_
         refine oy rfl rfl ?_
         refine ov (v2 V_gtr) ?_
         refine ov (V_pick_f rfl rfl rfl) ?_
         refine omv ?_
         refine on rfl (decide_eq_true (by omega)) ?_
         refine on rfl (decide_eq_true (by omega)) ?_
         refine on rfl (decide_eq_true (by omega)) ?_
         refine on rfl (decide_eq_true (by omega)) ?_
         refine on rfl (decide_eq_true (by omega)) ?_
         refine ov (V_pick_t rfl (decide_eq_true (by omega)) rfl) ?_
         refine omv ?_
         refine on rfl rfl ?_
         refine on rfl rfl ?_
         refine ov (V_pick_t rfl rfl rfl) ?_
         refine omv ?_
         refine on rfl rfl ?_
         refine on rfl rfl ?_
         refine ov (V_pick_t rfl rfl rfl) ?_
         refine nq ?_
         refine W.cond_true rfl rfl ?_
         refine sr ?_
         refine omv ?_
         refine omv ?_
         refine oy rfl rfl ?_
         refine omv ?_
         refine oy rfl rfl ?_
         refine ov (V_neqP (by kernel_rfl) rfl rfl) ?_
         refine ov (V_pick_t rfl rfl rfl) ?_
         refine oas ?_
         refine nq ?_
         refine W.ret ?_
         refine WQ.then_ret ?_
         refine WQ.ret1 Try.results5 (.tmp rfl) ?_
         intro w' hp; exact ⟨by first | rfl | (simp; done) | (simp [*]; done) | simp_all, hp.forget⟩
       · obtain ⟨hv0, hS0, hn0⟩ := LV.new (n := 64) (by omega) (by omega) h23.1 h23.2
         rw [hS0] at hv0 ⊢
         refine W.region ?_
         refine omv ?_
         refine ov (V_eqlP (by kernel_rfl) rfl rfl) ?_
         refine omv ?_
         refine oy rfl rfl ?_
         refine omv ?_
         refine oy rfl rfl ?_
         refine ov vlenS ?_
         refine oy rfl rfl ?_
         refine ov (v2 V_gtr) ?_
         refine ov (V_pick_f rfl rfl rfl) ?_
         refine omv ?_
         refine on rfl (decide_eq_true (by omega)) ?_
         refine on rfl (decide_eq_true (by omega)) ?_
         refine on rfl (decide_eq_true (by omega)) ?_
         refine on rfl (decide_eq_true (by omega)) ?_
         refine on rfl (decide_eq_true (by omega)) ?_
         refine ov (V_pick_t rfl (decide_eq_true (by omega)) rfl) ?_
         refine omv ?_
         refine on rfl rfl ?_
         refine on rfl rfl ?_
         refine ov (V_pick_t rfl rfl rfl) ?_
         refine omv ?_
         refine on rfl rfl ?_
         refine on rfl rfl ?_
         refine ov (V_pick_t rfl rfl rfl) ?_
         refine nq ?_
         refine W.cond_true rfl rfl ?_
         refine sr ?_
         refine omv ?_
         refine omv ?_
         refine oy rfl rfl ?_
         refine omv ?_
         refine oy rfl rfl ?_
         refine ov (V_neqP (by kernel_rfl) rfl rfl) ?_
         refine ov (V_pick_t rfl rfl rfl) ?_
         refine oas ?_
         refine nq ?_
         refine W.ret ?_
         refine WQ.then_ret ?_
         refine WQ.ret1 Try.results5 (.tmp rfl) ?_
         intro w' hp; exact ⟨by first | rfl | (simp; done) | (simp [*]; done) | simp_all, hp.forget⟩
 · by_cases c2 : n2 < n
   · by_cases c5 : now < 0
     · by_cases c6 : 100000 < now
       · obtain ⟨hv0, hS0, hn0⟩ := LV.new (n := 64) (by omega) (by omega) h23.1 h23.2
         rw [hS0] at hv0 ⊢
         refine W.region ?_
         refine omv ?_
         refine ov (V_eqlP (by kernel_rfl) rfl rfl) ?_
         refine omv ?_
         refine oy rfl rfl ?_
         refine omv ?_
         refine oy rfl rfl ?_
         refine ov vlenS ?_
         refine oy rfl rfl ?_
         refine ov (v2 V_gtr) ?_
         refine ov (V_pick_f rfl rfl rfl) ?_
         refine omv ?_
         refine oy rfl (decide_eq_false (by omega)) ?_
         refine omv ?_
         refine oy rfl (decide_eq_false (by omega)) ?_
         refine ov vlenS ?_
         refine oy rfl (decide_eq_false (by omega)) ?_
         refine omv ?_
         refine oy rfl (decide_eq_false (by omega)) ?_
         refine ov vlenS ?_
         refine oy rfl (decide_eq_false (by omega)) ?_
         refine ov (v2 V_lss) ?_
         refine ov (V_pick_f rfl (decide_eq_false (by omega)) rfl) ?_
         refine omv ?_
         refine on rfl (decide_eq_true (by omega)) ?_
         refine on rfl (decide_eq_true (by omega)) ?_
         refine ov (V_pick_t rfl (decide_eq_true (by omega)) rfl) ?_
         refine omv ?_
         refine on rfl rfl ?_
         refine on rfl rfl ?_
         refine ov (V_pick_t rfl rfl rfl) ?_
         refine nq ?_
         refine W.cond_true rfl rfl ?_
         refine sr ?_
         refine omv ?_
         refine omv ?_
         refine oy rfl rfl ?_
         refine omv ?_
         refine oy rfl rfl ?_
         refine ov (V_neqP (by kernel_rfl) rfl rfl) ?_
         refine ov (V_pick_t rfl rfl rfl) ?_
         refine oas ?_
         refine nq ?_
         refine W.ret ?_
         refine WQ.then_ret ?_
         refine WQ.ret1 Try.results5 (.tmp rfl) ?_
         intro w' hp; exact ⟨by first | rfl | (simp; done) | (simp [*]; done) | simp_all, hp.forget⟩
       · obtain ⟨hv0, hS0, hn0⟩ := LV.new (n := 64) (by omega) (by omega) h23.1 h23.2
         rw [hS0] at hv0 ⊢
         refine W.region ?_
         refine omv ?_
         refine ov (V_eqlP (by kernel_rfl) rfl rfl) ?_
         refine omv ?_
         refine oy rfl rfl ?_
         refine omv ?_
         refine oy rfl rfl ?_
         refine ov vlenS ?_
         refine oy rfl rfl ?_
         refine ov (v2 V_gtr) ?_
         refine ov (V_pick_f rfl rfl rfl) ?_
         refine omv ?_
         refine oy rfl (decide_eq_false (by omega)) ?_
         refine omv ?_
         refine oy rfl (decide_eq_false (by omega)) ?_
         refine ov vlenS ?_
         refine oy rfl (decide_eq_false (by omega)) ?_
         refine omv ?_
         refine oy rfl (decide_eq_false (by omega)) ?_
         refine ov vlenS ?_
         refine oy rfl (decide_eq_false (by omega)) ?_
         refine ov (v2 V_lss) ?_
         refine ov (V_pick_f rfl (decide_eq_false (by omega)) rfl) ?_
         refine omv ?_
         refine on rfl (decide_eq_true (by omega)) ?_
         refine on rfl (decide_eq_true (by omega)) ?_
         refine ov (V_pick_t rfl (decide_eq_true (by omega)) rfl) ?_
         refine omv ?_
         refine on rfl rfl ?_
         refine on rfl rfl ?_
         refine ov (V_pick_t rfl rfl rfl) ?_
         refine nq ?_
         refine W.cond_true rfl rfl ?_
         refine sr ?_
         refine omv ?_
         refine omv ?_
         refine oy rfl rfl ?_
         refine omv ?_
         refine oy rfl rfl ?_
         refine ov (V_neqP (by kernel_rfl) rfl rfl) ?_
         refine ov (V_pick_t rfl rfl rfl) ?_
         refine oas ?_
         refine nq ?_
         refine W.ret ?_
         refine WQ.then_ret ?_
         refine WQ.ret1 Try.results5 (.tmp rfl) ?_
         intro w' hp; exact ⟨by first | rfl | (simp; done) | (simp [*]; done) | simp_all, hp.forget⟩
     · by_cases c6 : 100000 < now
       · obtain ⟨hv0, hS0, hn0⟩ := LV.new (n := 64) (by omega) (by omega) h23.1 h23.2
         rw [hS0] at hv0 ⊢
         refine W.region ?_
         refine omv ?_
         refine ov (V_eqlP (by kernel_rfl) rfl rfl) ?_
         refine omv ?_
         refine oy rfl rfl ?_
         refine omv ?_
         refine oy rfl rfl ?_
         refine ov vlenS ?_
         refine oy rfl rfl ?_
         refine ov (v2 V_gtr) ?_
         refine ov (V_pick_f rfl rfl rfl) ?_
         refine omv ?_
         refine oy rfl (decide_eq_false (by omega)) ?_
         refine omv ?_
         refine oy rfl (decide_eq_false (by omega)) ?_
         refine ov vlenS ?_
         refine oy rfl (decide_eq_false (by omega)) ?_
         refine omv ?_
         refine oy rfl (decide_eq_false (by omega)) ?_
         refine ov vlenS ?_
         refine oy rfl (decide_eq_false (by omega)) ?_
         refine ov (v2 V_lss) ?_
         refine ov (V_pick_f rfl (decide_eq_false (by omega)) rfl) ?_
         refine omv ?_
         refine on rfl (decide_eq_true (by omega)) ?_
         refine on rfl (decide_eq_true (by omega)) ?_
         refine ov (V_pick_t rfl (decide_eq_true (by omega)) rfl) ?_
         refine omv ?_
         refine on rfl rfl ?_
         refine on rfl rfl ?_
         refine ov (V_pick_t rfl rfl rfl) ?_
         refine nq ?_
         refine W.cond_true rfl rfl ?_
         refine sr ?_
         refine omv ?_
         refine omv ?_
         refine oy rfl rfl ?_
         refine omv ?_
         refine oy rfl rfl ?_
         refine ov (V_neqP (by kernel_rfl) rfl rfl) ?_
         refine ov (V_pick_t rfl rfl rfl) ?_
         refine oas ?_
         refine nq ?_
         refine W.ret ?_
         refine WQ.then_ret ?_
         refine WQ.ret1 Try.results5 (.tmp rfl) ?_
         intro w' hp; exact ⟨by first | rfl | (simp; done) | (simp [*]; done) | simp_all, hp.forget⟩
       · obtain ⟨hv0, hS0, hn0⟩ := LV.new (n := 64) (by omega) (by omega) h23.1 h23.2
         rw [hS0] at hv0 ⊢
         refine W.region ?_
         refine omv ?_
         refine ov (V_eqlP (by kernel_rfl) rfl rfl) ?_
         refine omv ?_
         refine oy rfl rfl ?_
         refine omv ?_
         refine oy rfl rfl ?_
         refine ov vlenS ?_
         refine oy rfl rfl ?_
         refine ov (v2 V_gtr) ?_
         refine ov (V_pick_f rfl rfl rfl) ?_
         refine omv ?_
         refine oy rfl (decide_eq_false (by omega)) ?_
         refine omv ?_
         refine oy rfl (decide_eq_false (by omega)) ?_
         refine ov vlenS ?_
         refine oy rfl (decide_eq_false (by omega)) ?_
         refine omv ?_
         refine oy rfl (decide_eq_false (by omega)) ?_
         refine ov vlenS ?_
         refine oy rfl (decide_eq_false (by omega)) ?_
         refine ov (v2 V_lss) ?_
         refine ov (V_pick_f rfl (decide_eq_false (by omega)) rfl) ?_
         refine omv ?_
         refine on rfl (decide_eq_true (by omega)) ?_
         refine on rfl (decide_eq_true (by omega)) ?_
         refine ov (V_pick_t rfl (decide_eq_true (by omega)) rfl) ?_
         refine omv ?_
         refine on rfl rfl ?_
         refine on rfl rfl ?_
         refine ov (V_pick_t rfl rfl rfl) ?_
         refine nq ?_
         refine W.cond_true rfl rfl ?_
         refine sr ?_
         refine omv ?_
         refine omv ?_
         refine oy rfl rfl ?_
         refine omv ?_
         refine oy rfl rfl ?_
         refine ov (V_neqP (by kernel_rfl) rfl rfl) ?_
         refine ov (V_pick_t rfl rfl rfl) ?_
         refine oas ?_
         refine nq ?_
         refine W.ret ?_
         refine WQ.then_ret ?_
         refine WQ.ret1 Try.results5 (.tmp rfl) ?_
         intro w' hp; exact ⟨by first | rfl | (simp; done) | (simp [*]; done) | simp_all, hp.forget⟩
   · by_cases c5 : now < 0
     · by_cases c6 : 100000 < now
       · obtain ⟨hv0, hS0, hn0⟩ := LV.new (n := 64) (by omega) (by omega) h23.1 h23.2
         rw [hS0] at hv0 ⊢
         refine W.region ?_
         refine omv ?_
         refine ov (V_eqlP (by kernel_rfl) rfl rfl) ?_
         refine omv ?_
         refine oy rfl rfl ?_
         refine omv ?_
         refine oy rfl rfl ?_
         refine ov vlenS ?_
         refine oy rfl rfl ?_
         refine ov (v2 V_gtr) ?_
         refine ov (V_pick_f rfl rfl rfl) ?_
         refine omv ?_
         refine oy rfl (decide_eq_false (by omega)) ?_
         refine omv ?_
         refine oy rfl (decide_eq_false (by omega)) ?_
         refine ov vlenS ?_
         refine oy rfl (decide_eq_false (by omega)) ?_
         refine omv ?_
         refine oy rfl (decide_eq_false (by omega)) ?_
         refine ov vlenS ?_
         refine oy rfl (decide_eq_false (by omega)) ?_
         refine ov (v2 V_lss) ?_
         refine ov (V_pick_f rfl (decide_eq_false (by omega)) rfl) ?_
         refine omv ?_
         refine oy rfl (decide_eq_false (by omega)) ?_
         refine omv ?_
         refine oy rfl (decide_eq_false (by omega)) ?_
         refine ov (v2 V_lss) ?_
         refine ov (V_pick_f rfl (decide_eq_false (by omega)) rfl) ?_
         refine omv ?_
         refine on rfl (decide_eq_true c5) ?_
         refine on rfl (decide_eq_true c5) ?_
         refine ov (V_pick_t rfl (decide_eq_true c5) rfl) ?_
         refine nq ?_
         refine W.cond_true rfl rfl ?_
         refine sr ?_
         refine omv ?_
         refine omv ?_
         refine oy rfl rfl ?_
         refine omv ?_
         refine oy rfl rfl ?_
         refine ov (V_neqP (by kernel_rfl) rfl rfl) ?_
         refine ov (V_pick_t rfl rfl rfl) ?_
         refine oas ?_
         refine nq ?_
         refine W.ret ?_
         refine WQ.then_ret ?_
         refine WQ.ret1 Try.results5 (.tmp rfl) ?_
         intro w' hp; exact ⟨by first | rfl | (simp; done) | (simp [*]; done) | simp_all, hp.forget⟩
       · obtain ⟨hv0, hS0, hn0⟩ := LV.new (n := 64) (by omega) (by omega) h23.1 h23.2
         rw [hS0] at hv0 ⊢
         refine W.region ?_
         refine omv ?_
         refine ov (V_eqlP (by kernel_rfl) rfl rfl) ?_
         refine omv ?_
         refine oy rfl rfl ?_
         refine omv ?_
         refine oy rfl rfl ?_
         refine ov vlenS ?_
         refine oy rfl rfl ?_
         refine ov (v2 V_gtr) ?_
         refine ov (V_pick_f rfl rfl rfl) ?_
         refine omv ?_
         refine oy rfl (decide_eq_false (by omega)) ?_
         refine omv ?_
         refine oy rfl (decide_eq_false (by omega)) ?_
         refine ov vlenS ?_
         refine oy rfl (decide_eq_false (by omega)) ?_
         refine omv ?_
         refine oy rfl (decide_eq_false (by omega)) ?_
         refine ov vlenS ?_
         refine oy rfl (decide_eq_false (by omega)) ?_
         refine ov (v2 V_lss) ?_
         refine ov (V_pick_f rfl (decide_eq_false (by omega)) rfl) ?_
         refine omv ?_
         refine oy rfl (decide_eq_false (by omega)) ?_
         refine omv ?_
         refine oy rfl (decide_eq_false (by omega)) ?_
         refine ov (v2 V_lss) ?_
         refine ov (V_pick_f rfl (decide_eq_false (by omega)) rfl) ?_
         refine omv ?_
         refine on rfl (decide_eq_true c5) ?_
         refine on rfl (decide_eq_true c5) ?_
         refine ov (V_pick_t rfl (decide_eq_true c5) rfl) ?_
         refine nq ?_
         refine W.cond_true rfl rfl ?_
         refine sr ?_
         refine omv ?_
         refine omv ?_
         refine oy rfl rfl ?_
         refine omv ?_
         refine oy rfl rfl ?_
         refine ov (V_neqP (by kernel_rfl) rfl rfl) ?_
         refine ov (V_pick_t rfl rfl rfl) ?_
         refine oas ?_
         refine nq ?_
         refine W.ret ?_
         refine WQ.then_ret ?_
         refine WQ.ret1 Try.results5 (.tmp rfl) ?_
         intro w' hp; exact ⟨by first | rfl | (simp; done) | (simp [*]; done) | simp_all, hp.forget⟩
     · by_cases c6 : 100000 < now
       · obtain ⟨hv0, hS0, hn0⟩ := LV.new (n := 64) (by omega) (by omega) h23.1 h23.2
         rw [hS0] at hv0 ⊢
         refine W.region ?_
         refine omv ?_
         refine ov (V_eqlP (by kernel_rfl) rfl rfl) ?_
         refine omv ?_
         refine oy rfl rfl ?_
         refine omv ?_
         refine oy rfl rfl ?_
         refine ov vlenS ?_
         refine oy rfl rfl ?_
         refine ov (v2 V_gtr) ?_
         refine ov (V_pick_f rfl rfl rfl) ?_
         refine omv ?_
         refine oy rfl (decide_eq_false (by omega)) ?_
         refine omv ?_
         refine oy rfl (decide_eq_false (by omega)) ?_
         refine ov vlenS ?_
         refine oy rfl (decide_eq_false (by omega)) ?_
         refine omv ?_
         refine oy rfl (decide_eq_false (by omega)) ?_
         refine ov vlenS ?_
         refine oy rfl (decide_eq_false (by omega)) ?_
         refine ov (v2 V_lss) ?_
         refine ov (V_pick_f rfl (decide_eq_false (by omega)) rfl) ?_
         refine omv ?_
         refine oy rfl (decide_eq_false (by omega)) ?_
         refine omv ?_
         refine oy rfl (decide_eq_false (by omega)) ?_
         refine ov (v2 V_lss) ?_
         refine ov (V_pick_f rfl (decide_eq_false (by omega)) rfl) ?_
         refine omv ?_
         refine oy rfl (decide_eq_false c5) ?_
         refine omv ?_
         refine oy rfl (decide_eq_false c5) ?_
         refine ov (v2 V_gtr) ?_
         refine ov (V_pick_f rfl (decide_eq_false c5) rfl) ?_
         refine nq ?_
         refine W.cond_true rfl (decide_eq_true (by omega)) ?_
         refine sr ?_
         refine omv ?_
         refine omv ?_
         refine oy rfl rfl ?_
         refine omv ?_
         refine oy rfl rfl ?_
         refine ov (V_neqP (by kernel_rfl) rfl rfl) ?_
         refine ov (V_pick_t rfl rfl rfl) ?_
         refine oas ?_
         refine nq ?_
         refine W.ret ?_
         refine WQ.then_ret ?_
         refine WQ.ret1 Try.results5 (.tmp rfl) ?_
         intro w' hp; exact ⟨by first | rfl | (simp; done) | (simp [*]; done) | simp_all, hp.forget⟩
       · obtain ⟨hv0, hS0, hn0⟩ := LV.new (n := 64) (by omega) (by omega) h23.1 h23.2
         rw [hS0] at hv0 ⊢
         refine W.region ?_
         refine omv ?_
         refine ov (V_eqlP (by kernel_rfl) rfl rfl) ?_
         refine omv ?_
         refine oy rfl rfl ?_
         refine omv ?_
         refine oy rfl rfl ?_
         refine ov vlenS ?_
         refine oy rfl rfl ?_
         refine ov (v2 V_gtr) ?_
         refine ov (V_pick_f rfl rfl rfl) ?_
         refine omv ?_
         refine oy rfl (decide_eq_false (by omega)) ?_
         refine omv ?_
         refine oy rfl (decide_eq_false (by omega)) ?_
         refine ov vlenS ?_
         refine oy rfl (decide_eq_false (by omega)) ?_
         refine omv ?_
         refine oy rfl (decide_eq_false (by omega)) ?_
         refine ov vlenS ?_
         refine oy rfl (decide_eq_false (by omega)) ?_
         refine ov (v2 V_lss) ?_
         refine ov (V_pick_f rfl (decide_eq_false (by omega)) rfl) ?_
         refine omv ?_
         refine oy rfl (decide_eq_false (by omega)) ?_
         refine omv ?_
         refine oy rfl (decide_eq_false (by omega)) ?_
         refine ov (v2 V_lss) ?_
         refine ov (V_pick_f rfl (decide_eq_false (by omega)) rfl) ?_
         refine omv ?_
         refine oy rfl (decide_eq_false c5) ?_
         refine omv ?_
         refine oy rfl (decide_eq_false c5) ?_
         refine ov (v2 V_gtr) ?_
         refine ov (V_pick_f rfl (decide_eq_false c5) rfl) ?_
         refine nq ?_
         refine W.cond_false rfl (decide_eq_false (by omega)) ?_
         refine W.skip ?_
         refine WQ.then ?_
         refine sr ?_
         refine oas ?_
         refine nq ?_
         refine W.seq ?_
         refine sr ?_
         refine oas ?_
         refine nq ?_
         refine W.block ?_
         -- LOOP 0
         refine W.pick (S' := [(12, _), (13, _), (0, _), (1, _), (2, _), (6, _), (7, _), (8, _), (11, _), (47, _)]) [12, 13, 0, 1, 2, 6, 7, 8, 11, 47] rfl ?_
         refine W.loopG (σ := Nat × DS × GR × LS × Nat) (fun ⟨i, D, g, S, k⟩ => i ≤ n ∧ LV D g S 64 ∧ Pa S now i k ∧ g.rs.length ≤ 2 * i ∧ k ≤ i) (fun ⟨i, D, g, S, k⟩ => [(12, .int .i64 (k : Nat)), (13, .int .i64 (i : Nat))]) (fun ⟨i, D, g, S, k⟩ => [(b18.d, .cells [(1, [.slice (some ⟨b18.s, 0, none⟩) D.n D.n]), (1, [.map (some b18.m)]), (1, [.int .i64 D.fuse]), (1, [.bool D.dead])] 101), (b18.s, .cells [(D.n * 64, iv .u8 D.sure.flatten)] 58), (b18.m, .obj (mapO .i64 (D.m.map sE) D.ck)), (r23.1, .cells [(1, [.pointer (some ⟨b18.d, 0, none⟩)]), (1, [.int .i64 (g.rs.length : Nat)]), (1, [.int .i64 (D.n : Nat)]), (1, [.slice (gA g.o) g.rs.length (gC g.o)])] 103), (r23.2.1, .cells [(1, [.pointer (some ⟨r23.1, 0, none⟩)]), (1, [.map (some r23.2.2.1)])] 121), (r23.2.2.1, .obj (mapO .i64 (S.m.map (gE stkV)) S.ck))]) [] (fun ⟨i, D, g, S, k⟩ => gRL 5 31 g) (fun ⟨i, D, g, S, k⟩ => n - i) (0, newD 64, r23.2.2.2, ⟨[], 0⟩, 0) rfl cov ⟨Nat.zero_le _, hv0, .nil, by omega, Nat.le_refl _⟩ ?_
         rintro ⟨i, D, g, S, k⟩ ⟨hi, hv, hP, hg, hki⟩; dsimp only at hi hv hP hg hki ⊢
         refine W.seq ?_
         refine sr ?_
         refine omv ?_
         refine omv ?_
         refine ov vlenS ?_
         refine ov (v2 V_lss) ?_
         refine nq ?_
         refine W.cond_dec rfl (fun g1 => ?_) (fun g1 => ?_)
         · refine W.skip ?_
           refine WQ.then ?_
           refine W.seq ?_
           refine W.block ?_
           refine W.seq ?_
           refine W.seq ?_
           have hlr := hlb (l.getD i 0) (by rw [List.getD_eq_getElem?_getD, List.getElem?_eq_getElem (by omega)]; exact List.getElem_mem (by omega))
           refine W.region ?_
           refine omv ?_
           refine omv ?_
           obtain ⟨bbA, ooA, rfl⟩ := hs.hasN sc
           refine ov (viO 1) ?_
           refine ov (vldS i hs) ?_
           refine ov (v2 V_lss) ?_
           refine omv ?_
           refine WL.splitD rfl (fun g2 => ?_) (fun g2 => ?_)
           · refine on rfl (decide_eq_true g2) ?_
             refine on rfl (decide_eq_true g2) ?_
             refine on rfl (decide_eq_true g2) ?_
             refine on rfl (decide_eq_true g2) ?_
             refine on rfl (decide_eq_true g2) ?_
             refine ov (V_pick_td rfl g2 rfl) ?_
             refine nq ?_
             refine W.cond_true rfl rfl ?_
             refine sr ?_
             refine omv ?_
             refine oas ?_
             refine nq ?_
             refine W.ret ?_
             refine WQ.then_ret ?_
             refine WQ.block_ret ?_
             refine WQ.then_ret ?_
             refine WQ.then_ret ?_
             refine WQ.block_ret ?_
             refine WQ.then_ret ?_
             refine WQ.ret1 Try.results5 (.tmp rfl) ?_
             intro w' hp; exact ⟨by first | rfl | (simp; done) | (simp [*]; done) | simp_all, hp.forget⟩
           · refine oy rfl (decide_eq_false g2) ?_
             refine omv ?_
             refine oy rfl (decide_eq_false g2) ?_
             refine omv ?_
             refine oy rfl (decide_eq_false g2) ?_
             refine ov (viO 1) ?_
             refine oy rfl (decide_eq_false g2) ?_
             refine ov (vldS i hs) ?_
             refine oy rfl (decide_eq_false g2) ?_
             refine ov (v2 V_gtr) ?_
             refine ov (V_pick_fd rfl g2 rfl) ?_
             refine nq ?_
             refine W.cond_dec rfl (fun g3 => ?_) (fun g3 => ?_)
             · refine W.seq ?_
               refine W.region ?_
               refine omv ?_
               refine oas ?_
               refine nq ?_
               refine W.ret ?_
               refine WQ.then_ret ?_
               refine WQ.block_ret ?_
               refine WQ.then_ret ?_
               refine WQ.then_ret ?_
               refine WQ.block_ret ?_
               refine WQ.then_ret ?_
               refine WQ.ret1 Try.results5 (.tmp rfl) ?_
               intro w' hp; exact ⟨by first | rfl | (simp; done) | (simp [*]; done) | simp_all, hp.forget⟩
             · refine W.skip ?_
               refine WQ.then ?_
               refine W.seq ?_
               refine sr ?_
               refine omv ?_
               refine omv ?_
               refine omv ?_
               refine omv ?_
               refine ov (viO 1) ?_
               refine ov (vldS i hs) ?_
               refine cgP _ rfl (fun w hp => add23_calls b18 D hv.ok r23.1 g hv.gok hv.gn r23.2.1 r23.2.2.1 S hv.ls 3 i (l.getD i 0) w (HP.here hp cov)) (fun r78 h78 => ?_)
               simp only [List.cons_append, List.nil_append, List.append_nil, List.append_assoc]
               refine WL.back (gRL 5 31 r78) ?_
               simp only [List.cons_append, List.nil_append, List.append_nil, List.append_assoc]
               obtain ⟨e1, e2, hv1, hn1⟩ := hv.add ⟨by omega, by omega⟩ ⟨by omega, by omega⟩ ⟨by omega, by omega⟩ (hP.no i (Int.le_refl _)) (by omega) (by have := hP.len; omega) h78
               rw [e1, e2]
               generalize goD D g.rs.length (adQ S 3 i (l.getD i 0)) = D1 at hv1 ⊢
               refine ov (v2 V_neq) ?_
               refine nq ?_
               refine W.cond_false rfl (by decide) ?_
               refine W.skip ?_
               refine WQ.then ?_
               refine sr ?_
               refine omv ?_
               refine omv ?_
               obtain ⟨bbA2, ooA2, rfl⟩ := hs2.hasN sc
               refine ov (viO 1) ?_
               refine ov (vldBs (i := i) hs2) ?_
               refine nq ?_
               refine W.cond rfl (fun g4 => ?_) (fun g4 => ?_)
               · refine W.seq ?_
                 refine W.region ?_
                 refine omv ?_
                 refine omv ?_
                 refine omv ?_
                 refine cgP _ rfl (fun w hp => clear23_calls b18 D1 hv1.ok r23.1 r78 hv1.gok hv1.gn r23.2.1 r23.2.2.1 (S.put i ⟨3, (l.getD i 0), false⟩) hv1.ls i now w (HP.here hp cov)) (fun r87 h87 => ?_)
                 simp only [List.cons_append, List.nil_append, List.append_nil, List.append_assoc]
                 refine WL.back (gRL 5 31 r87) ?_
                 simp only [List.cons_append, List.nil_append, List.append_nil, List.append_assoc]
                 obtain ⟨e3, e4, hv2, hn2⟩ := hv1.clear (s := ⟨3, (l.getD i 0), false⟩) ⟨by omega, by omega⟩ (by rw [LS.get_put, if_pos rfl]) rfl (by omega) (by have := hP.more (t := (l.getD i 0)); have := this.len; omega) h87
                 rw [e3, e4]
                 generalize goD D1 r78.rs.length (clQ (S.put i ⟨3, (l.getD i 0), false⟩) i now) = D2 at hv2 ⊢
                 refine oas ?_
                 refine nx ?_
                 refine omv ?_
                 refine omv ?_
                 refine omv ?_
                 refine cgP _ rfl (fun w hp => clear23_calls b18 D2 hv2.ok r23.1 r87 hv2.gok hv2.gn r23.2.1 r23.2.2.1 ((S.put i ⟨3, (l.getD i 0), false⟩).put i ⟨3, (l.getD i 0), true⟩) hv2.ls i now w (HP.here hp cov)) (fun r91 h91 => ?_)
                 simp only [List.cons_append, List.nil_append, List.append_nil, List.append_assoc]
                 refine WL.back (gRL 5 31 r91) ?_
                 simp only [List.cons_append, List.nil_append, List.append_nil, List.append_assoc]
                 obtain ⟨e5, e6, hv3, hn3⟩ := hv2.same (clQ_old (s := ⟨3, (l.getD i 0), true⟩) (by rw [tmB_t (by omega), tmB_t (by omega)]; rfl) (by rw [LS.get_put, if_pos rfl]) rfl) h91
                 rw [e5, e6]
                 generalize goD D2 r87.rs.length (clQ ((S.put i ⟨3, (l.getD i 0), false⟩).put i ⟨3, (l.getD i 0), true⟩) i now) = D3 at hv3 ⊢
                 refine oas ?_
                 refine nx ?_
                 refine omv ?_
                 refine ov (v2 V_neq) ?_
                 refine omv ?_
                 refine oy rfl (by decide) ?_
                 refine omv ?_
                 refine oy rfl (by decide) ?_
                 refine ov (v2 V_neq) ?_
                 refine ov (V_pick_f rfl (by decide) rfl) ?_
                 refine nq ?_
                 refine W.cond_false rfl (by decide) ?_
                 refine W.skip ?_
                 refine WQ.block_normal ?_
                 refine WQ.then ?_
                 refine W.region ?_
                 refine omv ?_
                 first | refine ov vaddN ?_ | refine ov vadd ?_
                 refine oas ?_
                 refine WL.nil ?_
                 exact ag (i + 1, D3, r91, ((S.put i ⟨3, (l.getD i 0), false⟩).put i ⟨3, (l.getD i 0), true⟩), k) [12, 13, 0, 1, 2, 6, 7, 8, 11, 47] (by (try dsimp only); exact ⟨by omega, hv3, hP.back, by omega, by omega⟩) (by (try dsimp only); omega) rfl cov
               · refine W.seq ?_
                 refine W.region ?_
                 refine omv ?_
                 refine omv ?_
                 refine ov (viO 1) ?_
                 refine ov (vldS i hs) ?_
                 refine omv ?_
                 refine ov (v2 V_leq) ?_
                 refine omv ?_
                 refine WL.splitD rfl (fun g5 => ?_) (fun g5 => ?_)
                 · refine oy rfl (decide_eq_true g5) ?_
                   refine omv ?_
                   refine oy rfl (decide_eq_true g5) ?_
                   refine omv ?_
                   refine oy rfl (decide_eq_true g5) ?_
                   refine ov (viO 1) ?_
                   refine oy rfl (decide_eq_true g5) ?_
                   refine ov (vldS i hs) ?_
                   refine oy rfl (decide_eq_true g5) ?_
                   first | refine ov vaddN ?_ | refine ov vadd ?_
                   refine oy rfl (decide_eq_true g5) ?_
                   refine omv ?_
                   refine oy rfl (decide_eq_true g5) ?_
                   refine ov (v2 V_geq) ?_
                   refine ov (V_pick_td rfl g5 rfl) ?_
                   refine nq ?_
                   refine W.cond_dec rfl (fun g6 => ?_) (fun g6 => ?_)
                   · refine W.region ?_
                     refine omv ?_
                     first | refine ov vaddN ?_ | refine ov vadd ?_
                     refine oas ?_
                     refine WL.nil ?_
                     refine WQ.block_normal ?_
                     refine WQ.then ?_
                     refine W.region ?_
                     refine omv ?_
                     first | refine ov vaddN ?_ | refine ov vadd ?_
                     refine oas ?_
                     refine WL.nil ?_
                     exact ag (i + 1, D1, r78, (S.put i ⟨3, (l.getD i 0), false⟩), k + 1) [12, 13, 0, 1, 2, 6, 7, 8, 11, 47] (by (try dsimp only); exact ⟨by omega, hv1, (by have := hP.more (t := (l.getD i 0)); rw [if_pos ⟨by omega, by omega⟩] at this; exact this), by omega, by omega⟩) (by (try dsimp only); omega) rfl cov
                   · refine W.skip ?_
                     refine WQ.block_normal ?_
                     refine WQ.then ?_
                     refine W.region ?_
                     refine omv ?_
                     first | refine ov vaddN ?_ | refine ov vadd ?_
                     refine oas ?_
                     refine WL.nil ?_
                     exact ag (i + 1, D1, r78, (S.put i ⟨3, (l.getD i 0), false⟩), k) [12, 13, 0, 1, 2, 6, 7, 8, 11, 47] (by (try dsimp only); exact ⟨by omega, hv1, (by have := hP.more (t := (l.getD i 0)); rw [if_neg (by omega)] at this; exact this), by omega, by omega⟩) (by (try dsimp only); omega) rfl cov
                 · refine on rfl (decide_eq_false g5) ?_
                   refine on rfl (decide_eq_false g5) ?_
                   refine on rfl (decide_eq_false g5) ?_
                   refine on rfl (decide_eq_false g5) ?_
                   refine on rfl (decide_eq_false g5) ?_
                   refine on rfl (decide_eq_false g5) ?_
                   refine on rfl (decide_eq_false g5) ?_
                   refine ov (V_pick_fd rfl g5 rfl) ?_
                   refine nq ?_
                   refine W.cond_false rfl rfl ?_
                   refine W.skip ?_
                   refine WQ.block_normal ?_
                   refine WQ.then ?_
                   refine W.region ?_
                   refine omv ?_
                   first | refine ov vaddN ?_ | refine ov vadd ?_
                   refine oas ?_
                   refine WL.nil ?_
                   exact ag (i + 1, D1, r78, (S.put i ⟨3, (l.getD i 0), false⟩), k) [12, 13, 0, 1, 2, 6, 7, 8, 11, 47] (by (try dsimp only); exact ⟨by omega, hv1, (by have := hP.more (t := (l.getD i 0)); rw [if_neg (by omega)] at this; exact this), by omega, by omega⟩) (by (try dsimp only); omega) rfl cov
         · refine W.exit ?_
           refine WQ.then_exit ?_
           refine WQ.then_exit ?_
           refine WQ.block_hit ?_
           refine WQ.then ?_
           refine sr ?_
           refine omv ?_
           refine omv ?_
           refine oy rfl rfl ?_
           refine omv ?_
           refine oy rfl rfl ?_
           refine omv ?_
           refine oy rfl rfl ?_
           refine cms rfl (fun w hp => count23_calls r23.2.1 r23.2.2.1 r23.1 S hv.ls hv.sm 3 now (by omega) w (HP.here hp cov)) ?_
           refine oy rfl rfl ?_
           refine omv ?_
           refine oy rfl rfl ?_
           refine ov (v2 V_eql) ?_
           refine ov (V_pick_t rfl rfl rfl) ?_
           refine omv ?_
           refine oy rfl (by rw [hP.ca]; simp) ?_
           refine omv ?_
           refine oy rfl (by rw [hP.ca]; simp) ?_
           refine omv ?_
           refine oy rfl (by rw [hP.ca]; simp) ?_
           refine cms rfl (fun w hp => susp23_calls r23.2.1 r23.2.2.1 r23.1 S hv.ls hv.sm 3 now (by omega) w (HP.here hp cov)) ?_
           refine oy rfl (by rw [hP.ca]; simp) ?_
           refine omv ?_
           refine oy rfl (by rw [hP.ca]; simp) ?_
           refine ov (v2 V_geq) ?_
           refine oy rfl (by rw [hP.ca]; simp) ?_
           refine ov (V_eqlB (by kernel_rfl) rfl rfl) ?_
           refine ov (V_pick_t rfl (by rw [hP.ca]; simp) rfl) ?_
           refine omv ?_
           refine oy rfl (by rw [hP.ca]; simp; omega) ?_
           refine omv ?_
           refine oy rfl (by rw [hP.ca]; simp; omega) ?_
           refine omv ?_
           refine oy rfl (by rw [hP.ca]; simp; omega) ?_
           refine cms rfl (fun w hp => count23_calls r23.2.1 r23.2.2.1 r23.1 S hv.ls hv.sm 4 now (by omega) w (HP.here hp cov)) ?_
           refine oy rfl (by rw [hP.ca]; simp; omega) ?_
           refine ov (v2 V_eql) ?_
           refine ov (V_pick_t rfl (by rw [hP.ca]; simp; omega) rfl) ?_
           refine omv ?_
           refine oy rfl (by rw [hP.co]; rfl) ?_
           refine omv ?_
           refine oy rfl (by rw [hP.co]; rfl) ?_
           refine omv ?_
           refine oy rfl (by rw [hP.co]; rfl) ?_
           refine cgP _ rfl (fun w hp => clear23_calls b18 D hv.ok r23.1 g hv.gok hv.gn r23.2.1 r23.2.2.1 S hv.ls 900 now w (HP.here hp cov)) (fun r140 h140 => ?_)
           simp only [List.cons_append, List.nil_append, List.append_nil, List.append_assoc]
           refine WL.back (gRL 5 31 r140) ?_
           simp only [List.cons_append, List.nil_append, List.append_nil, List.append_assoc]
           obtain ⟨e5, e6, hv3, hn3⟩ := hv.same (clQ_no (by rw [tmB_t (by omega), tmB_t (by omega)]; rfl) (hP.no 900 (by omega))) h140
           rw [e5]
           refine oy rfl (by rw [hP.co]; rfl) ?_
           refine ov (v2 V_eql) ?_
           refine ov (V_pick_t rfl (by rw [hP.co]; rfl) rfl) ?_
           refine oas ?_
           refine nq ?_
           refine W.ret ?_
           refine WQ.ret1 Try.results5 (.tmp rfl) ?_
           intro w' hp; exact ⟨by first | rfl | (simp; done) | (simp [*]; done) | simp_all, hp.forget⟩

end Go.Proofs.Ytnpnnafcdnefiaa