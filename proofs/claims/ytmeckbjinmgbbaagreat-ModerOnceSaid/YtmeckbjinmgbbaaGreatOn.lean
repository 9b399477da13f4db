/- ModerOnce: its walk. -/
import Derived.Test.YtmeckbjinmgbbaaGreatOn1
set_option linter.unusedVariables false
set_option linter.unusedSimpArgs false

namespace Go.Proofs.YtmeckbjinmgbbaaGreat
open Go.X

set_option maxHeartbeats 1000000 in
theorem moderOnce_calls (l0 : List Int) (e0 : l0.length = 32) (hb0 : bytes l0) (A : Option Addr) (n cap : Nat) (l : List Int) (kept : Int) (w : World) (hs : SrW w 1 A n (iv .i64 l)) (hkb : 0 ≤ kept ∧ kept ≤ 18446744073709551615) :
    Calls Tryz.prog 4 [AG [(32, iv .u8 l0)], .slice A n cap, .int .u64 kept].toArray w fun e w' => e = .returned (.bool true) ∧ HP w w' [] [] := by
 have k0 := newD_ok (n := 64) (by omega) (by omega)
 have hl := SrW.ilen hs
 refine calls_of_W Tryz.func4 rfl Tryz.ntmps4 rfl rfl (HP.refl w []) ?_
 refine sr ?_
 refine obxa (fun b3 => ?_)
 refine oas ?_
 refine nx ?_
 refine cp rfl (fun w hp => awake24_calls w) ?_
 refine oas ?_
 refine nx ?_
 refine cg rfl (fun w hp => new21_calls 64 (by omega) (by omega) w) (fun b21 h21 => ?_)
 refine omv ?_
 refine ov vex ?_
 refine ov vex ?_
 refine oas ?_
 refine oas ?_
 refine nx ?_
 refine ov (vlda 32) ?_
 refine omv ?_
 refine cgP _ rfl (fun w hp => begun24_calls l0 e0 b21 (newD 64) k0 w (HP.here hp cov)) (fun r27 h27 => ?_)
 simp only [List.cons_append, List.nil_append, List.append_nil, List.append_assoc]
 refine WL.back (mwL l0 ({ r27.1 with K := b21 } : MA) r27.2) ?_
 simp only [List.cons_append, List.nil_append, List.append_nil, List.append_assoc]
 refine omv ?_
 refine ov vex ?_
 refine ov vex ?_
 refine oas ?_
 refine oas ?_
 refine nq ?_
 refine W.seq ?_
 refine W.seq ?_
 by_cases c1 : 20 < n
 · refine W.region ?_
   refine omv ?_
   refine ov (V_eqlP (by kernel_rfl) rfl rfl) ?_
   refine omv ?_
   refine oy rfl rfl ?_
   refine omv ?_
   refine oy rfl rfl ?_
   refine ov (V_eqlP (by kernel_rfl) rfl rfl) ?_
   refine ov (V_pick_f rfl rfl rfl) ?_
   refine omv ?_
   refine oy rfl rfl ?_
   refine omv ?_
   refine oy rfl rfl ?_
   refine ov vlenS ?_
   refine oy rfl rfl ?_
   refine ov (v2 V_gtr) ?_
   refine ov (V_pick_f rfl rfl rfl) ?_
   refine nq ?_
   refine W.cond_true rfl (decide_eq_true (by omega)) ?_
   refine sr ?_
   refine omv ?_
   refine omv ?_
   refine oy rfl rfl ?_
   refine omv ?_
   refine oy rfl rfl ?_
   refine ov (V_neqP (by kernel_rfl) rfl rfl) ?_
   refine ov (V_pick_t rfl rfl rfl) ?_
   refine oas ?_
   refine nq ?_
   refine W.ret ?_
   refine WQ.then_ret ?_
   refine WQ.ret1 Tryz.results4 (.tmp rfl) ?_
   intro w' hp; exact ⟨by first | rfl | (simp; done) | (simp; omega), hp.forget⟩
 · refine W.region ?_
   refine omv ?_
   refine ov (V_eqlP (by kernel_rfl) rfl rfl) ?_
   refine omv ?_
   refine oy rfl rfl ?_
   refine omv ?_
   refine oy rfl rfl ?_
   refine ov (V_eqlP (by kernel_rfl) rfl rfl) ?_
   refine ov (V_pick_f rfl rfl rfl) ?_
   refine omv ?_
   refine oy rfl rfl ?_
   refine omv ?_
   refine oy rfl rfl ?_
   refine ov vlenS ?_
   refine oy rfl rfl ?_
   refine ov (v2 V_gtr) ?_
   refine ov (V_pick_f rfl rfl rfl) ?_
   refine nq ?_
   refine W.cond_false rfl (decide_eq_false (by omega)) ?_
   refine W.skip ?_
   refine WQ.then ?_
   refine sr ?_
   refine omk (fun b46 => ?_)
   refine oas ?_
   refine nq ?_
   refine W.seq ?_
   refine sr ?_
   refine oas ?_
   refine nq ?_
   refine W.block ?_
   -- LOOP 0
   refine W.pick (S' := [(10, _), (11, _), (13, _), (0, _), (1, _), (2, _), (3, _), (6, _), (7, _), (8, _), (12, _), (40, _)]) [10, 11, 13, 0, 1, 2, 3, 6, 7, 8, 12, 40] rfl ?_
   refine W.loopG (σ := Nat × MA × MW × TM × Nat) (fun ⟨rd, Q, x, m, ck⟩ => rd ≤ 2 ∧ O1 l0 x m (20 * rd)) (fun ⟨rd, Q, x, m, ck⟩ => [(10, .pointer (some ⟨Q.M, 0, none⟩)), (11, .pointer (some ⟨Q.b, 0, none⟩)), (13, .int .i64 (rd : Nat))]) (fun ⟨rd, Q, x, m, ck⟩ => [(b46, .obj (mapO .i64 (m.map tE) ck))]) [(b3, _)] (fun ⟨rd, Q, x, m, ck⟩ => mwL l0 ({ Q with K := b21 } : MA) x) (fun ⟨rd, Q, x, m, ck⟩ => 2 - rd) (0, r27.1, r27.2, [], 0) rfl cov ⟨Nat.zero_le _, O1.new h27.1 h27.2⟩ ?_
   rintro ⟨rd, Q, x, m, ck⟩ ⟨hrd, hO⟩; dsimp only at hrd hO ⊢
   refine W.seq ?_
   refine sr ?_
   refine omv ?_
   refine ov (v2 V_lss) ?_
   refine nq ?_
   refine W.cond_dec rfl (fun g1 => ?_) (fun g1 => ?_)
   · refine W.skip ?_
     refine WQ.then ?_
     refine W.seq ?_
     refine W.block ?_
     refine W.seq ?_
     refine sr ?_
     refine oas ?_
     refine nq ?_
     refine W.block ?_
     -- LOOP 1
     refine W.pick (S' := [(14, _), (0, _), (1, _), (2, _), (3, _), (6, _), (7, _), (8, _), (10, _), (11, _), (12, _), (13, _), (40, _), (48, _)]) [14, 0, 1, 2, 3, 6, 7, 8, 10, 11, 12, 13, 40, 48] rfl ?_
     refine W.loopG (σ := Nat × MW × TM × Nat) (fun ⟨i, x, m, ck⟩ => i ≤ n ∧ O1 l0 x m (20 * rd + i)) (fun ⟨i, x, m, ck⟩ => [(14, .int .i64 (i : Nat))]) (fun ⟨i, x, m, ck⟩ => [(b46, .obj (mapO .i64 (m.map tE) ck))]) [(b3, _)] (fun ⟨i, x, m, ck⟩ => mwL l0 ({ Q with K := b21 } : MA) x) (fun ⟨i, x, m, ck⟩ => n - i) (0, x, m, ck) rfl cov ⟨Nat.zero_le _, hO⟩ ?_
     rintro ⟨i, x, m, ck⟩ ⟨hi, hO⟩; dsimp only at hi hO ⊢
     refine W.seq ?_
     refine sr ?_
     refine omv ?_
     refine omv ?_
     refine ov vlenS ?_
     refine ov (v2 V_lss) ?_
     refine nq ?_
     refine W.cond_dec rfl (fun g2 => ?_) (fun g2 => ?_)
     · refine W.skip ?_
       refine WQ.then ?_
       refine W.seq ?_
       refine W.block ?_
       refine W.seq ?_
       refine W.seq ?_
       by_cases c2 : (l.getD i 0) < 0
       · refine W.region ?_
         refine omv ?_
         refine omv ?_
         obtain ⟨bbA, ooA, rfl⟩ := hs.hasN sc
         refine ov (viO 1) ?_
         refine ov (vldS i hs) ?_
         refine ov (v2 V_lss) ?_
         refine omv ?_
         refine on rfl (decide_eq_true (by omega)) ?_
         refine on rfl (decide_eq_true (by omega)) ?_
         refine on rfl (decide_eq_true (by omega)) ?_
         refine on rfl (decide_eq_true (by omega)) ?_
         refine on rfl (decide_eq_true (by omega)) ?_
         refine ov (V_pick_t rfl (decide_eq_true (by omega)) rfl) ?_
         refine nq ?_
         refine W.cond_true rfl rfl ?_
         refine sr ?_
         refine omv ?_
         refine oas ?_
         refine nq ?_
         refine W.ret ?_
         refine WQ.then_ret ?_
         refine WQ.block_ret ?_
         refine WQ.then_ret ?_
         refine WQ.then_ret ?_
         refine WQ.block_ret ?_
         refine WQ.then_ret ?_
         refine WQ.block_ret ?_
         refine WQ.then_ret ?_
         refine WQ.then_ret ?_
         refine WQ.block_ret ?_
         refine WQ.then_ret ?_
         refine WQ.ret1 Tryz.results4 (.tmp rfl) ?_
         intro w' hp; exact ⟨by first | rfl | (simp; done) | (simp; omega), hp.forget⟩
       · by_cases c3 : 1000 < (l.getD i 0)
         · refine W.region ?_
           refine omv ?_
           refine omv ?_
           obtain ⟨bbA, ooA, rfl⟩ := hs.hasN sc
           refine ov (viO 1) ?_
           refine ov (vldS i hs) ?_
           refine ov (v2 V_lss) ?_
           refine omv ?_
           refine oy rfl (decide_eq_false (by omega)) ?_
           refine omv ?_
           refine oy rfl (decide_eq_false (by omega)) ?_
           refine omv ?_
           refine oy rfl (decide_eq_false (by omega)) ?_
           refine ov (viO 1) ?_
           refine oy rfl (decide_eq_false (by omega)) ?_
           refine ov (vldS i hs) ?_
           refine oy rfl (decide_eq_false (by omega)) ?_
           refine ov (v2 V_gtr) ?_
           refine ov (V_pick_f rfl (decide_eq_false (by omega)) rfl) ?_
           refine nq ?_
           refine W.cond_true rfl (decide_eq_true (by omega)) ?_
           refine sr ?_
           refine omv ?_
           refine oas ?_
           refine nq ?_
           refine W.ret ?_
           refine WQ.then_ret ?_
           refine WQ.block_ret ?_
           refine WQ.then_ret ?_
           refine WQ.then_ret ?_
           refine WQ.block_ret ?_
           refine WQ.then_ret ?_
           refine WQ.block_ret ?_
           refine WQ.then_ret ?_
           refine WQ.then_ret ?_
           refine WQ.block_ret ?_
           refine WQ.then_ret ?_
           refine WQ.ret1 Tryz.results4 (.tmp rfl) ?_
           intro w' hp; exact ⟨by first | rfl | (simp; done) | (simp; omega), hp.forget⟩
         · refine W.region ?_
           refine omv ?_
           refine omv ?_
           obtain ⟨bbA, ooA, rfl⟩ := hs.hasN sc
           refine ov (viO 1) ?_
           refine ov (vldS i hs) ?_
           refine ov (v2 V_lss) ?_
           refine omv ?_
           refine oy rfl (decide_eq_false (by omega)) ?_
           refine omv ?_
           refine oy rfl (decide_eq_false (by omega)) ?_
           refine omv ?_
           refine oy rfl (decide_eq_false (by omega)) ?_
           refine ov (viO 1) ?_
           refine oy rfl (decide_eq_false (by omega)) ?_
           refine ov (vldS i hs) ?_
           refine oy rfl (decide_eq_false (by omega)) ?_
           refine ov (v2 V_gtr) ?_
           refine ov (V_pick_f rfl (decide_eq_false (by omega)) rfl) ?_
           refine nq ?_
           refine W.cond_false rfl (decide_eq_false (by omega)) ?_
           refine W.skip ?_
           refine WQ.then ?_
           refine W.seq ?_
           have hMi : MdOK (l.getD i 0) 4 5 6 := mdo (by omega) (by omega)
           refine dr (.q 0 (.q 1 (.q 2 (.q 3 (.q 4 (.l 5 (.q 6 (.done)))))))) [(b3, _)] ?_
           refine dq rfl (vlda 32) ?_
           refine dq rfl (V_move rfl) ?_
           refine dq rfl (V_move rfl) ?_
           refine dq rfl (viO 1) ?_
           refine dq rfl (vldS i hs) ?_
           refine WD.l ?_
           refine dcgG rfl rfl (fun w hp => made24_calls l0 e0 hb0 (l.getD i 0) 4 5 6 hMi w) (fun o75 h75 => ?_)
           refine dq rfl (V_assign rfl) ?_
           refine WD.done ?_
           refine WQ.then ?_
           refine W.seq ?_
           by_cases hs0 : ∃ s, x.S.get (l.getD i 0) = some s
           · obtain ⟨s, hs1⟩ := hs0
             refine W.region ?_
             refine omv ?_
             refine omv ?_
             refine cgP _ rfl (fun w hp => in24_md l0 ({ Q with K := b21 } : MA) x hO.ok e0 hb0 (l.getD i 0) 4 5 6 7 hMi o75 h75 9 (hO.e9 (by omega) hs1) w (HP.here hp cov) (fun w1 M h1 => Sr.pastP hp h1 (hs := fun w hp => HP.sgr hp dell (by rw [iv_len]; exact hMi.len) h75 iv_one))) (fun r79 h79 => ?_)
             simp only [List.cons_append, List.nil_append, List.append_nil, List.append_assoc]
             refine WL.back (mwL l0 ({ Q with K := b21 } : MA) r79) ?_
             simp only [List.cons_append, List.nil_append, List.append_nil, List.append_assoc]
             have hq9 := hO.qr h79.2
             have hO2 := hO.again (ck := ck) hs1 h79.1 h79.2
             refine omv ?_
             refine ov vex ?_
             refine ov vex ?_
             refine oas ?_
             refine oas ?_
             refine nx ?_
             refine omv ?_
             refine omv ?_
             refine omv ?_
             refine ov (viO 1) ?_
             refine ov (vldS i hs) ?_
             refine cgP (ι := Unit) (A := fun _ => True) (V := fun _ => .int .i64 7) (M := fun _ => mwL l0 ({ Q with K := b21 } : MA) r79) _ rfl (fun w hp => (juN_w l0 ({ Q with K := b21 } : MA) r79 h79.1 (l.getD i 0) 1 8 (.inl rfl) (by rw [hq9]; rfl) w (HP.here hp cov)).mono fun e w' h => ⟨(), trivial, h⟩) (fun _ _ => ?_)
             simp only [List.cons_append, List.nil_append, List.append_nil, List.append_assoc]
             refine WL.back (mwL l0 ({ Q with K := b21 } : MA) r79) ?_
             simp only [List.cons_append, List.nil_append, List.append_nil, List.append_assoc]
             refine oas ?_
             refine nq ?_
             refine W.seq ?_
             refine sr ?_
             refine omv ?_
             refine ov (v2 V_eql) ?_
             refine omv ?_
             refine omv ?_
             refine omv ?_
             refine ov (viO 1) ?_
             refine ov (vldS i hs) ?_
             refine ov (vlkZ 4 (.bool false) (.bool true) (tget (o := some true) (by rw [hO.told, hs1]; rfl))) ?_
             refine ov (V_eqlB (by kernel_rfl) rfl rfl) ?_
             refine omv ?_
             refine oy rfl (by decide) ?_
             refine omv ?_
             refine oy rfl (by decide) ?_
             refine omv ?_
             refine oy rfl (by decide) ?_
             refine ov (v2 V_neq) ?_
             refine oy rfl (by decide) ?_
             refine omv ?_
             refine oy rfl (by decide) ?_
             refine omv ?_
             refine oy rfl (by decide) ?_
             refine ov (v2 V_neq) ?_
             refine oy rfl (by decide) ?_
             refine omv ?_
             refine oy rfl (by decide) ?_
             refine omv ?_
             refine oy rfl (by decide) ?_
             refine ov (v2 V_neq) ?_
             refine oy rfl (by decide) ?_
             refine ov (V_pick_f rfl (by decide) rfl) ?_
             refine oy rfl (by decide) ?_
             refine ov (V_pick_t rfl (by decide) rfl) ?_
             refine ov (V_pick_f rfl (by decide) rfl) ?_
             refine nq ?_
             refine W.cond_false rfl (by decide) ?_
             refine W.skip ?_
             refine WQ.then ?_
             refine sr ?_
             refine omv ?_
             refine omv ?_
             refine omv ?_
             refine ov (viO 1) ?_
             refine ov (vldS i hs) ?_
             refine omu ?_
             refine nq ?_
             refine W.seq ?_
             rw [tput, tclk]
             refine W.region ?_
             refine omv ?_
             refine cgP (ι := Unit) (A := fun _ => True) (V := fun _ => .int .i64 (cnt r79.S.m 4 8 : Nat)) (M := fun _ => mwL l0 ({ Q with K := b21 } : MA) r79) _ rfl (fun w hp => (count_w l0 ({ Q with K := b21 } : MA) r79 hO2.ok (by have := hO2.sl; omega) 4 8 (by omega) w (HP.here hp cov)).mono fun e w' h => ⟨(), trivial, h⟩) (fun _ _ => ?_)
             simp only [List.cons_append, List.nil_append, List.append_nil, List.append_assoc]
             refine WL.back (mwL l0 ({ Q with K := b21 } : MA) r79) ?_
             simp only [List.cons_append, List.nil_append, List.append_nil, List.append_assoc]
             rw [hO2.c4]
             refine omv ?_
             refine ov (vlenM) ?_
             refine ov (v2 V_neq) ?_
             refine nq ?_
             refine W.cond_false rfl (decide_eq_false (by simp)) ?_
             refine W.skip ?_
             refine WQ.block_normal ?_
             refine WQ.then ?_
             refine W.region ?_
             refine omv ?_
             first | refine ov vaddN ?_ | refine ov vadd ?_
             refine oas ?_
             refine WL.nil ?_
             exact ag ((i + 1, r79, kput m ck (l.getD i 0) true, kck m ck (l.getD i 0))) [14, 0, 1, 2, 3, 6, 7, 8, 10, 11, 12, 13, 40, 48] (by (try dsimp only); exact ⟨by omega, hO2⟩) (by (try dsimp only); omega) rfl cov
           · have hs1 : x.S.get (l.getD i 0) = none := by cases hx : x.S.get (l.getD i 0) with | none => rfl | some s => exact absurd ⟨s, hx⟩ hs0
             refine W.region ?_
             refine omv ?_
             refine omv ?_
             refine cgP _ rfl (fun w hp => in24_md l0 ({ Q with K := b21 } : MA) x hO.ok e0 hb0 (l.getD i 0) 4 5 6 7 hMi o75 h75 0 (hO.e0 (by omega) hs1) w (HP.here hp cov) (fun w1 M h1 => Sr.pastP hp h1 (hs := fun w hp => HP.sgr hp dell (by rw [iv_len]; exact hMi.len) h75 iv_one))) (fun r79 h79 => ?_)
             simp only [List.cons_append, List.nil_append, List.append_nil, List.append_assoc]
             refine WL.back (mwL l0 ({ Q with K := b21 } : MA) r79) ?_
             simp only [List.cons_append, List.nil_append, List.append_nil, List.append_assoc]
             obtain ⟨hm1, hm2, hm3, hm4, hm5, -⟩ := hO.mid h79.2
             have hgl := hO.gl
             have hsl := hO.sl
             refine omv ?_
             refine ov vex ?_
             refine ov vex ?_
             refine oas ?_
             refine oas ?_
             refine nx ?_
             refine omv ?_
             refine omv ?_
             refine omv ?_
             refine ov (viO 1) ?_
             refine ov (vldS i hs) ?_
             refine cgP _ rfl (fun w hp => juS_md l0 ({ Q with K := b21 } : MA) r79 h79.1 64 hm1 (l.getD i 0) 4 5 6 8 hMi 0 (by rw [hm2]; exact if_pos rfl) (by rw [hm2]; rfl) (by omega) (by rw [hm4]; exact hs1) (by rw [hm3]; omega) (by rw [hm4]; omega) w (HP.here hp cov)) (fun r87 h87 => ?_)
             simp only [List.cons_append, List.nil_append, List.append_nil, List.append_assoc]
             refine WL.back (mwL l0 ({ Q with K := b21 } : MA) r87) ?_
             simp only [List.cons_append, List.nil_append, List.append_nil, List.append_assoc]
             have hO2 := hO.step (ck := ck) (by omega) (by omega) hs1 h79.2 h87.1 h87.2
             refine oas ?_
             refine nq ?_
             refine W.seq ?_
             refine sr ?_
             refine omv ?_
             refine ov (v2 V_eql) ?_
             refine omv ?_
             refine omv ?_
             refine omv ?_
             refine ov (viO 1) ?_
             refine ov (vldS i hs) ?_
             refine ov (vlkZ 4 (.bool false) (.bool false) (tget (o := none) (by rw [hO.told, hs1]; rfl))) ?_
             refine ov (V_eqlB (by kernel_rfl) rfl rfl) ?_
             refine omv ?_
             refine oy rfl (by decide) ?_
             refine omv ?_
             refine oy rfl (by decide) ?_
             refine omv ?_
             refine oy rfl (by decide) ?_
             refine ov (v2 V_neq) ?_
             refine oy rfl (by decide) ?_
             refine omv ?_
             refine on rfl (by decide) ?_
             refine on rfl (by decide) ?_
             refine on rfl (by decide) ?_
             refine onu rfl ?_
             refine onu rfl ?_
             refine on rfl (by decide) ?_
             refine oy rfl (by decide) ?_
             refine ov (V_pick_f rfl (by decide) rfl) ?_
             refine ov (V_pick_f rfl (by decide) rfl) ?_
             refine nq ?_
             refine W.cond_false rfl rfl ?_
             refine W.skip ?_
             refine WQ.then ?_
             refine sr ?_
             refine omv ?_
             refine omv ?_
             refine omv ?_
             refine ov (viO 1) ?_
             refine ov (vldS i hs) ?_
             refine omu ?_
             refine nq ?_
             refine W.seq ?_
             rw [tput, tclk]
             refine W.region ?_
             refine omv ?_
             refine cgP (ι := Unit) (A := fun _ => True) (V := fun _ => .int .i64 (cnt r87.S.m 4 8 : Nat)) (M := fun _ => mwL l0 ({ Q with K := b21 } : MA) r87) _ rfl (fun w hp => (count_w l0 ({ Q with K := b21 } : MA) r87 hO2.ok (by have := hO2.sl; omega) 4 8 (by omega) w (HP.here hp cov)).mono fun e w' h => ⟨(), trivial, h⟩) (fun _ _ => ?_)
             simp only [List.cons_append, List.nil_append, List.append_nil, List.append_assoc]
             refine WL.back (mwL l0 ({ Q with K := b21 } : MA) r87) ?_
             simp only [List.cons_append, List.nil_append, List.append_nil, List.append_assoc]
             rw [hO2.c4]
             refine omv ?_
             refine ov (vlenM) ?_
             refine ov (v2 V_neq) ?_
             refine nq ?_
             refine W.cond_false rfl (decide_eq_false (by simp)) ?_
             refine W.skip ?_
             refine WQ.block_normal ?_
             refine WQ.then ?_
             refine W.region ?_
             refine omv ?_
             first | refine ov vaddN ?_ | refine ov vadd ?_
             refine oas ?_
             refine WL.nil ?_
             exact ag ((i + 1, r87, kput m ck (l.getD i 0) true, kck m ck (l.getD i 0))) [14, 0, 1, 2, 3, 6, 7, 8, 10, 11, 12, 13, 40, 48] (by (try dsimp only); exact ⟨by omega, hO2⟩) (by (try dsimp only); omega) rfl cov
     · refine W.exit ?_
       refine WQ.then_exit ?_
       refine WQ.then_exit ?_
       refine WQ.block_hit ?_
       refine WQ.then ?_
       refine W.seq ?_
       obtain rfl : i = n := by omega
       replace hO := hO.mono (k' := 20 * (rd + 1)) (by omega)
       refine W.region ?_
       refine omv ?_
       refine omv ?_
       refine cgP (ι := Unit) (A := fun _ => True) (V := fun _ => _) (M := fun _ => _) _ rfl (fun w hp => (crash_w l0 ({ Q with K := b21 } : MA) x hO.ok kept hkb w (HP.here hp cov)).mono fun e w' h => ⟨(), trivial, h⟩) (fun _ _ => ?_)
       simp only [List.cons_append, List.nil_append, List.append_nil, List.append_assoc]
       refine nx ?_
       refine ov (vlda 32) ?_
       refine omv ?_
       refine cgP _ rfl (fun w hp => begun24_calls l0 e0 b21 (crD x.D kept) (crD_ok hO.ok.d) w (HP.here hp cov)) (fun r126 h126 => ?_)
       simp only [List.cons_append, List.nil_append, List.append_nil, List.append_assoc]
       refine WL.back (mwL l0 ({ r126.1 with K := b21 } : MA) r126.2) ?_
       simp only [List.cons_append, List.nil_append, List.append_nil, List.append_assoc]
       have hO2 := hO.crash h126.1 h126.2 (by omega)
       refine omv ?_
       refine ov vex ?_
       refine ov vex ?_
       refine oas ?_
       refine oas ?_
       refine nx ?_
       refine omv ?_
       refine ov (V_eqlP (by kernel_rfl) rfl rfl) ?_
       refine omv ?_
       refine oy rfl rfl ?_
       refine omv ?_
       refine oy rfl rfl ?_
       refine ov (V_eqlP (by kernel_rfl) rfl rfl) ?_
       refine ov (V_pick_f rfl rfl rfl) ?_
       refine omv ?_
       refine oy rfl rfl ?_
       refine omv ?_
       refine oy rfl rfl ?_
       refine cgP (ι := Unit) (A := fun _ => True) (V := fun _ => .int .i64 (cnt r126.2.S.m 4 8 : Nat)) (M := fun _ => mwL l0 ({ r126.1 with K := b21 } : MA) r126.2) _ rfl (fun w hp => (count_w l0 ({ r126.1 with K := b21 } : MA) r126.2 hO2.ok (by have := hO2.sl; omega) 4 8 (by omega) w (HP.here hp cov)).mono fun e w' h => ⟨(), trivial, h⟩) (fun _ _ => ?_)
       simp only [List.cons_append, List.nil_append, List.append_nil, List.append_assoc]
       refine WL.back (mwL l0 ({ r126.1 with K := b21 } : MA) r126.2) ?_
       simp only [List.cons_append, List.nil_append, List.append_nil, List.append_assoc]
       rw [hO2.c4]
       refine oy rfl rfl ?_
       refine omv ?_
       refine oy rfl rfl ?_
       refine ov (vlenM) ?_
       refine oy rfl rfl ?_
       refine ov (v2 V_neq) ?_
       refine ov (V_pick_f rfl rfl rfl) ?_
       refine nq ?_
       refine W.cond_false rfl (decide_eq_false (by simp)) ?_
       refine W.skip ?_
       refine WQ.block_normal ?_
       refine WQ.then ?_
       refine W.region ?_
       refine omv ?_
       first | refine ov vaddN ?_ | refine ov vadd ?_
       refine oas ?_
       refine WL.nil ?_
       exact ag ((rd + 1, r126.1, r126.2, m, ck)) [10, 11, 13, 0, 1, 2, 3, 6, 7, 8, 12, 40] (by (try dsimp only); exact ⟨by omega, hO2⟩) (by (try dsimp only); omega) rfl cov
   · refine W.exit ?_
     refine WQ.then_exit ?_
     refine WQ.then_exit ?_
     refine WQ.block_hit ?_
     refine WQ.then ?_
     refine sr ?_
     refine omv ?_
     refine omv ?_
     refine oy rfl rfl ?_
     refine omv ?_
     refine oy rfl rfl ?_
     refine cgP (ι := Unit) (A := fun _ => True) (V := fun _ => .int .i64 (cnt x.S.m 5 8 : Nat)) (M := fun _ => mwL l0 ({ Q with K := b21 } : MA) x) _ rfl (fun w hp => (count_w l0 ({ Q with K := b21 } : MA) x hO.ok (by have := hO.sl; omega) 5 8 (by omega) w (HP.here hp cov)).mono fun e w' h => ⟨(), trivial, h⟩) (fun _ _ => ?_)
     simp only [List.cons_append, List.nil_append, List.append_nil, List.append_assoc]
     refine WL.back (mwL l0 ({ Q with K := b21 } : MA) x) ?_
     simp only [List.cons_append, List.nil_append, List.append_nil, List.append_assoc]
     rw [hO.c5]
     refine oy rfl rfl ?_
     refine ov (v2 V_eql) ?_
     refine ov (V_pick_t rfl rfl rfl) ?_
     refine oas ?_
     refine nq ?_
     refine W.ret ?_
     refine WQ.ret1 Tryz.results4 (.tmp rfl) ?_
     intro w' hp; exact ⟨by first | rfl | (simp; done) | (simp; omega), hp.forget⟩

end Go.Proofs.YtmeckbjinmgbbaaGreat