/- RelayRates: its walk. -/
import Derived.Test.YtmeckbjinmgbbaaInv
set_option linter.unusedVariables false
set_option linter.unusedSimpArgs false

namespace Go.Proofs.Ytmeckbjinmgbbaa
open Go.X
theorem one_acked {c c2 c3 : PAcc} {e : EnvS} {l : List Int} {s : StampS} {id : Int} (h0 : c.abs.ms = []) (h1 : c2.abs.ms = c.abs.ms ++ [⟨c.many + 1, e.at none 0 0, s, l⟩]) (h2 : c2.many = c.many + 1) (h : Acked c2 id c3) (hid : id = c.many + 1) (hm : 0 ≤ c.many) : c3.abs.ms = [] ∧ c3.many = c.many + 1 := by
  refine ⟨?_, h.many.trans h2⟩
  rw [h.ms, h1, h0, List.nil_append, h2]
  exact (ack_one (by rw [hid]) (by omega)).2
theorem nil_acked {c c2 c3 : PAcc} {id : Int} (h0 : c.abs.ms = []) (h1 : c2.abs.ms = c.abs.ms) (h2 : c2.many = c.many) (h : Acked c2 id c3) : c3.abs.ms = [] ∧ c3.many = c.many := by
  refine ⟨?_, h.many.trans h2⟩
  rw [h.ms, h1, h0]; exact ack_nil

set_option maxHeartbeats 1000000 in
theorem relayRates_calls (l0 : List Int) (e0 : l0.length = 32) (hb0 : bytes l0) (a1 a2 : Int) (w : World) :
    Calls Try.prog 7 [AG [(32, iv .u8 l0)], .int .i64 a1, .int .i64 a2].toArray w fun e w' => e = .returned (.bool true) ∧ HP w w' [] [] := by
 refine calls_of_W Try.func7 rfl Try.ntmps7 rfl rfl (HP.refl w []) ?_
 refine sr ?_
 refine obxa (fun b3 => ?_)
 refine oas ?_
 refine nx ?_
 refine cp rfl (fun w hp => awake20_calls w) ?_
 refine oas ?_
 refine nx ?_
 refine ov (vlda 32) ?_
 refine cg rfl (fun w hp => begun20_calls l0 e0 w) (fun b22 h22 => ?_)
 refine oas ?_
 refine nq ?_
 refine W.seq ?_
 refine sr ?_
 refine omv ?_
 refine ov (V_eqlP (by kernel_rfl) rfl rfl) ?_
 refine omv ?_
 refine oy rfl rfl ?_
 refine omv ?_
 refine oy rfl rfl ?_
 refine ov (v2 V_lss) ?_
 refine ov (V_pick_f rfl rfl rfl) ?_
 refine omv ?_
 refine WL.splitD rfl (fun g1 => ?_) (fun g1 => ?_)
 · refine on rfl (decide_eq_true g1) ?_
   refine on rfl (decide_eq_true g1) ?_
   refine ov (V_pick_td rfl g1 rfl) ?_
   refine omv ?_
   refine on rfl rfl ?_
   refine on rfl rfl ?_
   refine ov (V_pick_t rfl rfl rfl) ?_
   refine omv ?_
   refine on rfl rfl ?_
   refine on rfl rfl ?_
   refine ov (V_pick_t rfl rfl rfl) ?_
   refine nq ?_
   refine W.cond_true rfl rfl ?_
   refine sr ?_
   refine omv ?_
   refine omv ?_
   refine oy rfl rfl ?_
   refine omv ?_
   refine oy rfl rfl ?_
   refine ov (V_neqP (by kernel_rfl) rfl rfl) ?_
   refine ov (V_pick_t rfl rfl rfl) ?_
   refine oas ?_
   refine nq ?_
   refine W.ret ?_
   refine WQ.then_ret ?_
   refine WQ.ret1 Try.results7 (.tmp rfl) ?_
   intro w' hp; exact ⟨by first | rfl | (simp; omega), hp.forget⟩
 · refine oy rfl (decide_eq_false g1) ?_
   refine omv ?_
   refine oy rfl (decide_eq_false g1) ?_
   refine ov (v2 V_gtr) ?_
   refine ov (V_pick_fd rfl g1 rfl) ?_
   refine omv ?_
   refine WL.splitD rfl (fun g2 => ?_) (fun g2 => ?_)
   · refine on rfl (decide_eq_true g2) ?_
     refine on rfl (decide_eq_true g2) ?_
     refine ov (V_pick_td rfl g2 rfl) ?_
     refine omv ?_
     refine on rfl rfl ?_
     refine on rfl rfl ?_
     refine ov (V_pick_t rfl rfl rfl) ?_
     refine nq ?_
     refine W.cond_true rfl rfl ?_
     refine sr ?_
     refine omv ?_
     refine omv ?_
     refine oy rfl rfl ?_
     refine omv ?_
     refine oy rfl rfl ?_
     refine ov (V_neqP (by kernel_rfl) rfl rfl) ?_
     refine ov (V_pick_t rfl rfl rfl) ?_
     refine oas ?_
     refine nq ?_
     refine W.ret ?_
     refine WQ.then_ret ?_
     refine WQ.ret1 Try.results7 (.tmp rfl) ?_
     intro w' hp; exact ⟨by first | rfl | (simp; omega), hp.forget⟩
   · refine oy rfl (decide_eq_false g2) ?_
     refine omv ?_
     refine oy rfl (decide_eq_false g2) ?_
     refine ov (v2 V_lss) ?_
     refine ov (V_pick_fd rfl g2 rfl) ?_
     refine omv ?_
     refine WL.splitD rfl (fun g3 => ?_) (fun g3 => ?_)
     · refine on rfl (decide_eq_true g3) ?_
       refine on rfl (decide_eq_true g3) ?_
       refine ov (V_pick_td rfl g3 rfl) ?_
       refine nq ?_
       refine W.cond_true rfl rfl ?_
       refine sr ?_
       refine omv ?_
       refine omv ?_
       refine oy rfl rfl ?_
       refine omv ?_
       refine oy rfl rfl ?_
       refine ov (V_neqP (by kernel_rfl) rfl rfl) ?_
       refine ov (V_pick_t rfl rfl rfl) ?_
       refine oas ?_
       refine nq ?_
       refine W.ret ?_
       refine WQ.then_ret ?_
       refine WQ.ret1 Try.results7 (.tmp rfl) ?_
       intro w' hp; exact ⟨by first | rfl | (simp; omega), hp.forget⟩
     · refine oy rfl (decide_eq_false g3) ?_
       refine omv ?_
       refine oy rfl (decide_eq_false g3) ?_
       refine ov (v2 V_gtr) ?_
       refine ov (V_pick_fd rfl g3 rfl) ?_
       refine nq ?_
       refine W.cond_dec rfl (fun g4 => ?_) (fun g4 => ?_)
       · refine W.seq ?_
         refine W.region ?_
         refine omv ?_
         refine omv ?_
         refine oy rfl rfl ?_
         refine omv ?_
         refine oy rfl rfl ?_
         refine ov (V_neqP (by kernel_rfl) rfl rfl) ?_
         refine ov (V_pick_t rfl rfl rfl) ?_
         refine oas ?_
         refine nq ?_
         refine W.ret ?_
         refine WQ.then_ret ?_
         refine WQ.ret1 Try.results7 (.tmp rfl) ?_
         intro w' hp; exact ⟨by first | rfl | (simp; omega), hp.forget⟩
       · refine W.skip ?_
         refine WQ.then ?_
         refine sr ?_
         refine obsI (k := .u8) 5 1 [120] (fun b46 => ?_)
         refine oro ?_
         refine ov (V_build (by kernel_rfl) (zi (zs := [(1, [.int .i64 0]), (1, [.int .i64 0]), (32, List.replicate 32 (.int .u8 0)), (32, List.replicate 32 (.int .u8 0)), (1, [.int .i64 0]), (1, [.int .i64 0]), (1, [.slice none 0 0])])) (.one (k := 0) rfl rfl (by kernel_rfl) rfl (.one (k := 1) rfl rfl (by kernel_rfl) rfl (.one (k := 68) rfl rfl (by kernel_rfl) rfl (.nil _))))) ?_
         refine oal [(1, [.int .i64 0]), (1, [.int .i64 0]), (32, List.replicate 32 (.int .u8 0)), (32, List.replicate 32 (.int .u8 0)), (1, [.int .i64 0]), (1, [.int .i64 0]), (1, [.slice none 0 0])] (fun b9 => ?_)
         refine osta 69 ?_
         refine nq ?_
         refine W.seq ?_
         have hve := vE_ok (f := 1) (t := 2) (x := 120) (A := some ⟨b46, 0, none⟩) (by decide)
         have hvh := vE_he (f := 1) (t := 2) (A := some ⟨b46, 0, none⟩) (by decide) (by decide)
         obtain ⟨n2, rfl⟩ : ∃ n : Nat, a1 = n := ⟨a1.toNat, by omega⟩
         apply W.j1
         · intro hJ
           refine dr (.q 1 (.l2 0 (.l2 2 (.q 3 (.q 4 (.q 5 (.l 6 (.l 7 (.q 8 (.done))))))) 6 (.l 2 (.q 3 (.q 4 (.q 5 (.l 7 (.q 8 (.done)))))))) 6 (.l 0 (.l 2 (.q 3 (.q 4 (.q 5 (.l 7 (.q 8 (.done)))))))))) [(b9, _)] ?_
           refine dq rfl (vlda 69) ?_
           refine WD.l2 ?_ ?_
           · refine dcp rfl rfl (fun w hp => link20_calls 1 w) ?_
             refine WD.l2 ?_ ?_
             · refine dcp rfl rfl (fun w hp => tag20_calls (lnk 1) lnk_len lnk_bytes (vE 1 2 (some ⟨b46, 0, none⟩)) (some ⟨b46, 0, none⟩) 1 1 [120] hve hvh w sw) ?_
               refine dq rfl (V_move rfl) ?_
               refine dq rfl vex ?_
               refine dq rfl vex ?_
               refine WD.l ?_
               refine dal rfl [(32, List.replicate 32 (.int .u8 0))] (fun b10 => ?_)
               refine WD.l ?_
               refine dsta rfl 32 ?_
               refine dq rfl (V_assign rfl) ?_
               refine WD.done ?_
               exact WQ.pick (S' := [(0, _), (1, _), (2, _), (3, _), (6, _), (7, _), (8, _), (9, _), (10, _), (11, _), (40, _)]) [0, 1, 2, 3, 6, 7, 8, 9, 10, 11, 40] rfl (hJ b10)
             · refine dal rfl [(32, List.replicate 32 (.int .u8 0))] (fun b10 => ?_)
               refine WD.l ?_
               refine dcp rfl rfl (fun w hp => tag20_calls (lnk 1) lnk_len lnk_bytes (vE 1 2 (some ⟨b46, 0, none⟩)) (some ⟨b46, 0, none⟩) 1 1 [120] hve hvh w sw) ?_
               refine dq rfl (V_move rfl) ?_
               refine dq rfl vex ?_
               refine dq rfl vex ?_
               refine WD.l ?_
               refine dsta rfl 32 ?_
               refine dq rfl (V_assign rfl) ?_
               refine WD.done ?_
               exact WQ.pick (S' := [(0, _), (1, _), (2, _), (3, _), (6, _), (7, _), (8, _), (9, _), (10, _), (11, _), (40, _)]) [0, 1, 2, 3, 6, 7, 8, 9, 10, 11, 40] rfl (hJ b10)
           · refine dal rfl [(32, List.replicate 32 (.int .u8 0))] (fun b10 => ?_)
             refine WD.l ?_
             refine dcp rfl rfl (fun w hp => link20_calls 1 w) ?_
             refine WD.l ?_
             refine dcp rfl rfl (fun w hp => tag20_calls (lnk 1) lnk_len lnk_bytes (vE 1 2 (some ⟨b46, 0, none⟩)) (some ⟨b46, 0, none⟩) 1 1 [120] hve hvh w sw) ?_
             refine dq rfl (V_move rfl) ?_
             refine dq rfl vex ?_
             refine dq rfl vex ?_
             refine WD.l ?_
             refine dsta rfl 32 ?_
             refine dq rfl (V_assign rfl) ?_
             refine WD.done ?_
             exact WQ.pick (S' := [(0, _), (1, _), (2, _), (3, _), (6, _), (7, _), (8, _), (9, _), (10, _), (11, _), (40, _)]) [0, 1, 2, 3, 6, 7, 8, 9, 10, 11, 40] rfl (hJ b10)
         intro b10
         refine WQ.then ?_
         refine sr ?_
         refine oas ?_
         refine nq ?_
         refine W.seq ?_
         refine sr ?_
         refine oas ?_
         refine nq ?_
         refine W.block ?_
         -- LOOP 0
         refine W.pick (S' := [(12, _), (13, _), (0, _), (1, _), (2, _), (3, _), (6, _), (7, _), (8, _), (9, _), (10, _), (11, _), (40, _)]) [12, 13, 0, 1, 2, 3, 6, 7, 8, 9, 10, 11, 40] rfl ?_
         refine W.loopG (σ := Nat × Nat × PAcc × PAcc × List Ent × Nat) (fun ⟨i, wt, xa, xc, m, ck⟩ => i ≤ n2 ∧ wt = min i 5 ∧ J2 b22.2.2.1.p b22.2.2.2.p l0 xa xc m ∧ xa.link = lnk 1 ∧ xa.susp = false ∧ xa.n = 5 - wt ∧ xa.t = 0 ∧ xc.abs.ms = [] ∧ xc.many = wt) (fun ⟨i, wt, xa, xc, m, ck⟩ => [(12, .int .i64 (wt : Nat)), (13, .int .i64 (i : Nat))]) (fun ⟨i, wt, xa, xc, m, ck⟩ => []) [(b10, _), (b9, _), (b46, _), (b22.1.1, _), (b3, _)] (fun ⟨i, wt, xa, xc, m, ck⟩ => stpL b22.1.2 5 l0 m ck ++ (accP b22.2.1 ++ (accP xa ++ accP xc))) (fun ⟨i, wt, xa, xc, m, ck⟩ => n2 - i) (0, 0, b22.2.2.1, b22.2.2.2, [], 0) rfl cov ⟨Nat.zero_le _, by omega, ⟨h22.2.1.1, h22.2.2.1, rfl, rfl, Good.nil⟩, (PAcc.fld h22.2.1.2).1, (PAcc.fld h22.2.1.2).2.1, (PAcc.fld h22.2.1.2).2.2.2.1, (PAcc.fld h22.2.1.2).2.2.1, congrArg AAcc.ms h22.2.2.2, h22.z.2.2⟩ ?_
         rintro ⟨i, wt, xa, xc, m, ck⟩ ⟨hi, hw, hJ, hli, hsu, hn, ht, hms, hmy⟩; dsimp only at hi hw hJ hli hsu hn ht hms hmy ⊢
         have hml := ms_nil hms
         refine W.seq ?_
         refine sr ?_
         refine omv ?_
         refine omv ?_
         refine ov (v2 V_lss) ?_
         refine nq ?_
         refine W.cond_dec rfl (fun g5 => ?_) (fun g5 => ?_)
         · refine W.skip ?_
           refine WQ.then ?_
           refine W.seq ?_
           refine W.block ?_
           refine sr ?_
           refine omv ?_
           refine ov (vlda 69) ?_
           refine ov (vlda 32) ?_
           refine cgP _ rfl (fun w hp => snd20_calls b22.1.1 b22.1.2 5 l0 (by decide) e0 hb0 (ps3 b22.2.1.p b22.2.2.1.p b22.2.2.2.p) rfl m ck hJ.g (vE 1 2 (some ⟨b46, 0, none⟩)) (some ⟨b46, 0, none⟩) 1 1 [120] hve hvh (tgL (lnk 1) (vE 1 2 (some ⟨b46, 0, none⟩)) [120]) tgL_len tgL_bytes 0 (by show ¬ ((1 : Int) = 2 ∨ (0 : Int) < 0 ∨ (1000000 : Int) < 0); omega) xa xc hJ.oka hJ.okc (by rw [hJ.pa]; rfl) (by rw [hJ.pc]; rfl) (by omega) w (HP.here hp cov) (fun w1 M h1 => Sr.pastP hp h1 (hs := by exact Sr.ownR (by repeat (first | exact At.headR | apply At.tail)) iv_one))) (fun r64 h64 => ?_)
           simp only [List.cons_append, List.nil_append, List.append_nil, List.append_assoc]
           refine WL.back (stpL b22.1.2 5 l0 r64.m r64.ck) ?_
           simp only [List.cons_append, List.nil_append, List.append_nil, List.append_assoc]
           refine WL.back (accP r64.a) ?_
           simp only [List.cons_append, List.nil_append, List.append_nil, List.append_assoc]
           refine WL.back (accP r64.c) ?_
           simp only [List.cons_append, List.nil_append, List.append_nil, List.append_assoc]
           have hsc64 := h64.sc
           have hst64 := h64.st
           unfold stV
           have hJ64 := hJ.snd h64
           refine omv ?_
           refine ov vex ?_
           refine ov vex ?_
           refine oal [(1, [.int .i64 0]), (1, [.int .i64 0]), (1, [.int .i64 0]), (1, [.int .i64 0]), (32, List.replicate 32 (.int .u8 0)), (32, List.replicate 32 (.int .u8 0))] (fun b14 => ?_)
           refine osta 68 ?_
           refine oas ?_
           refine nq ?_
           refine W.seq ?_
           refine W.seq ?_
           by_cases c1 : i < 5
           · obtain ⟨tk1, tk2, tk3⟩ := take_ok (t := xa.t) (n := xa.n) (now := 0) (by omega) (by omega) (by omega)
             have hw64 := h64.went (by rw [hli]) hsu (by omega) tk1
             refine W.region ?_
             refine omv ?_
             refine ov (v2 V_eql) ?_
             refine nq ?_
             refine W.cond_true rfl (decide_eq_true hw64.k) ?_
             refine W.region ?_
             refine omv ?_
             first | refine ov vaddN ?_ | refine ov vadd ?_
             refine oas ?_
             refine nq ?_
             refine W.region ?_
             refine omv ?_
             refine omv ?_
             refine cgP _ rfl (fun w hp => ack20_calls b22.1.2.r b22.1.1 (ps3 b22.2.1.p b22.2.2.1.p b22.2.2.2.p) rfl 2 r64.c h64.okc (by rw [hJ64.pc]; rfl) ((wt : Int) + 1) w (HP.here hp cov)) (fun r75 h75 => ?_)
             simp only [List.cons_append, List.nil_append, List.append_nil, List.append_assoc]
             refine WL.back (accP r75) ?_
             simp only [List.cons_append, List.nil_append, List.append_nil, List.append_assoc]
             have hk75 := Acked.mk' h75
             have hJ75 := hJ64.acked hk75
             refine WL.nil ?_
             refine WQ.block_normal ?_
             refine WQ.then ?_
             refine W.region ?_
             refine omv ?_
             first | refine ov vaddN ?_ | refine ov vadd ?_
             refine oas ?_
             refine WL.nil ?_
             obtain ⟨q1, q2⟩ := one_acked hms hw64.ms hw64.many hk75 (by omega) (by omega)
             exact ag ((i + 1, wt + 1, r64.a, r75, r64.m, r64.ck)) [12, 13, 0, 1, 2, 3, 6, 7, 8, 9, 10, 11, 40] (by (try dsimp only); exact ⟨by omega, by omega, hJ75, hw64.link.trans hli, hw64.susp.trans hsu, by rw [hw64.n, tk3]; omega, by rw [hw64.t, tk2], q1, by omega⟩) (by (try dsimp only); omega) rfl cov
           · obtain ⟨tk1, tk2, tk3⟩ := take_no (t := xa.t) (n := xa.n) (now := 0) (by omega) (by omega) (by omega)
             have hw64 := h64.rated (by rw [hli]) hsu (by omega) (by omega)
             have hk64 := hw64.k.trans tk1
             refine W.region ?_
             refine omv ?_
             refine ov (v2 V_eql) ?_
             refine nq ?_
             refine W.cond_false rfl (by simp [hk64]) ?_
             refine sr ?_
             refine omv ?_
             refine ov (v2 V_neq) ?_
             refine nq ?_
             refine W.cond_false rfl (by simp [hk64]) ?_
             refine W.skip ?_
             refine WQ.then ?_
             refine W.region ?_
             refine omv ?_
             refine omv ?_
             refine cgP _ rfl (fun w hp => ack20_calls b22.1.2.r b22.1.1 (ps3 b22.2.1.p b22.2.2.1.p b22.2.2.2.p) rfl 2 r64.c h64.okc (by rw [hJ64.pc]; rfl) (wt : Int) w (HP.here hp cov)) (fun r75 h75 => ?_)
             simp only [List.cons_append, List.nil_append, List.append_nil, List.append_assoc]
             refine WL.back (accP r75) ?_
             simp only [List.cons_append, List.nil_append, List.append_nil, List.append_assoc]
             have hk75 := Acked.mk' h75
             have hJ75 := hJ64.acked hk75
             refine WL.nil ?_
             refine WQ.block_normal ?_
             refine WQ.then ?_
             refine W.region ?_
             refine omv ?_
             first | refine ov vaddN ?_ | refine ov vadd ?_
             refine oas ?_
             refine WL.nil ?_
             obtain ⟨q1, q2⟩ := nil_acked hms hw64.ms hw64.many hk75
             exact ag ((i + 1, wt, r64.a, r75, r64.m, r64.ck)) [12, 13, 0, 1, 2, 3, 6, 7, 8, 9, 10, 11, 40] (by (try dsimp only); exact ⟨by omega, by omega, hJ75, hw64.link.trans hli, hw64.susp.trans hsu, by rw [hw64.n, tk3]; omega, by rw [hw64.t, tk2], q1, by omega⟩) (by (try dsimp only); omega) rfl cov
         · refine W.exit ?_
           refine WQ.then_exit ?_
           refine WQ.then_exit ?_
           refine WQ.block_hit ?_
           refine WQ.then ?_
           refine W.seq ?_
           obtain rfl : i = n2 := by omega
           refine W.region ?_
           refine oas ?_
           refine nq ?_
           refine W.seq ?_
           refine sr ?_
           refine oas ?_
           refine nq ?_
           refine W.block ?_
           -- LOOP 1
           refine W.pick (S' := [(16, _), (17, _), (0, _), (1, _), (2, _), (3, _), (6, _), (7, _), (8, _), (9, _), (10, _), (11, _), (12, _), (13, _), (40, _), (57, _)]) [16, 17, 0, 1, 2, 3, 6, 7, 8, 9, 10, 11, 12, 13, 40, 57] rfl ?_
           refine W.loopG (σ := Nat × Nat × PAcc × PAcc × List Ent × Nat) (fun ⟨i, mr, xa, xc, m, ck⟩ => i ≤ 7 ∧ J2 b22.2.2.1.p b22.2.2.2.p l0 xa xc m ∧ xa.link = lnk 1 ∧ xa.susp = false ∧ min 5 (xa.n + (a2 / 10 - xa.t / 10)) = min 5 (5 - (wt : Int) + a2 / 10) - mr ∧ (mr : Int) = min (i : Int) (min 5 (5 - (wt : Int) + a2 / 10)) ∧ (0 ≤ xa.t ∧ xa.t ≤ a2) ∧ xc.abs.ms = [] ∧ xc.many = (wt : Int) + mr) (fun ⟨i, mr, xa, xc, m, ck⟩ => [(16, .int .i64 (mr : Nat)), (17, .int .i64 (i : Nat))]) (fun ⟨i, mr, xa, xc, m, ck⟩ => []) [(b10, _), (b9, _), (b46, _), (b22.1.1, _), (b3, _)] (fun ⟨i, mr, xa, xc, m, ck⟩ => stpL b22.1.2 5 l0 m ck ++ (accP b22.2.1 ++ (accP xa ++ accP xc))) (fun ⟨i, mr, xa, xc, m, ck⟩ => 7 - i) (0, 0, xa, xc, m, ck) rfl cov ⟨Nat.zero_le _, hJ, hli, hsu, by rw [hn, ht]; omega, by omega, by omega, hms, by omega⟩ ?_
           rintro ⟨i, mr, xa, xc, m, ck⟩ ⟨hi, hJ, hli, hsu, hn, hr, ht, hms, hmy⟩; dsimp only at hi hJ hli hsu hn hr ht hms hmy ⊢
           have hml := ms_nil hms
           refine W.seq ?_
           refine sr ?_
           refine omv ?_
           refine ov (v2 V_lss) ?_
           refine nq ?_
           refine W.cond_dec rfl (fun g6 => ?_) (fun g6 => ?_)
           · refine W.skip ?_
             refine WQ.then ?_
             refine W.seq ?_
             refine W.block ?_
             refine sr ?_
             refine omv ?_
             refine ov (vlda 69) ?_
             refine ov (vlda 32) ?_
             refine omv ?_
             refine cgP _ rfl (fun w hp => snd20_calls b22.1.1 b22.1.2 5 l0 (by decide) e0 hb0 (ps3 b22.2.1.p b22.2.2.1.p b22.2.2.2.p) rfl m ck hJ.g (vE 1 2 (some ⟨b46, 0, none⟩)) (some ⟨b46, 0, none⟩) 1 1 [120] hve hvh (tgL (lnk 1) (vE 1 2 (some ⟨b46, 0, none⟩)) [120]) tgL_len tgL_bytes a2 (by show ¬ ((1 : Int) = 2 ∨ (a2 : Int) < 0 ∨ (1000000 : Int) < a2); omega) xa xc hJ.oka hJ.okc (by rw [hJ.pa]; rfl) (by rw [hJ.pc]; rfl) (by omega) w (HP.here hp cov) (fun w1 M h1 => Sr.pastP hp h1 (hs := by exact Sr.ownR (by repeat (first | exact At.headR | apply At.tail)) iv_one))) (fun r85 h85 => ?_)
             simp only [List.cons_append, List.nil_append, List.append_nil, List.append_assoc]
             refine WL.back (stpL b22.1.2 5 l0 r85.m r85.ck) ?_
             simp only [List.cons_append, List.nil_append, List.append_nil, List.append_assoc]
             refine WL.back (accP r85.a) ?_
             simp only [List.cons_append, List.nil_append, List.append_nil, List.append_assoc]
             refine WL.back (accP r85.c) ?_
             simp only [List.cons_append, List.nil_append, List.append_nil, List.append_assoc]
             have hsc85 := h85.sc
             have hst85 := h85.st
             unfold stV
             have hJ85 := hJ.snd h85
             refine omv ?_
             refine ov vex ?_
             refine ov vex ?_
             refine oal [(1, [.int .i64 0]), (1, [.int .i64 0]), (1, [.int .i64 0]), (1, [.int .i64 0]), (32, List.replicate 32 (.int .u8 0)), (32, List.replicate 32 (.int .u8 0))] (fun b18 => ?_)
             refine osta 68 ?_
             refine oas ?_
             refine nq ?_
             refine W.seq ?_
             by_cases c2 : (mr : Int) < min 5 (5 - (wt : Int) + a2 / 10)
             · obtain ⟨tk1, tk2, tk3⟩ := take_ok (t := xa.t) (n := xa.n) (now := a2) (by omega) (by omega) (by omega)
               have hw85 := h85.went (by rw [hli]) hsu (by omega) tk1
               refine W.region ?_
               refine omv ?_
               refine ov (v2 V_eql) ?_
               refine nq ?_
               refine W.cond_true rfl (decide_eq_true hw85.k) ?_
               refine sr ?_
               refine omv ?_
               first | refine ov vaddN ?_ | refine ov vadd ?_
               refine oas ?_
               refine nq ?_
               refine W.region ?_
               refine omv ?_
               refine omv ?_
               refine omv ?_
               first | refine ov vaddN ?_ | refine ov vadd ?_
               refine cgP _ rfl (fun w hp => ack20_calls b22.1.2.r b22.1.1 (ps3 b22.2.1.p b22.2.2.1.p b22.2.2.2.p) rfl 2 r85.c h85.okc (by rw [hJ85.pc]; rfl) ((wt : Int) + ((mr : Int) + 1)) w (HP.here hp cov)) (fun r96 h96 => ?_)
               simp only [List.cons_append, List.nil_append, List.append_nil, List.append_assoc]
               refine WL.back (accP r96) ?_
               simp only [List.cons_append, List.nil_append, List.append_nil, List.append_assoc]
               have hk96 := Acked.mk' h96
               have hJ96 := hJ85.acked hk96
               refine WL.nil ?_
               refine WQ.block_normal ?_
               refine WQ.then ?_
               refine W.region ?_
               refine omv ?_
               first | refine ov vaddN ?_ | refine ov vadd ?_
               refine oas ?_
               refine WL.nil ?_
               obtain ⟨q1, q2⟩ := one_acked hms hw85.ms hw85.many hk96 (by omega) (by omega)
               exact ag ((i + 1, mr + 1, r85.a, r96, r85.m, r85.ck)) [16, 17, 0, 1, 2, 3, 6, 7, 8, 9, 10, 11, 12, 13, 40, 57] (by (try dsimp only); exact ⟨by omega, hJ96, hw85.link.trans hli, hw85.susp.trans hsu, by rw [hw85.n, hw85.t, tk3, tk2]; omega, by omega, by rw [hw85.t, tk2]; omega, q1, by omega⟩) (by (try dsimp only); omega) rfl cov
             · obtain ⟨tk1, tk2, tk3⟩ := take_no (t := xa.t) (n := xa.n) (now := a2) (by omega) (by omega) (by omega)
               have hw85 := h85.rated (by rw [hli]) hsu (by omega) (by omega)
               have hk85 := hw85.k.trans tk1
               refine W.region ?_
               refine omv ?_
               refine ov (v2 V_eql) ?_
               refine nq ?_
               refine W.cond_false rfl (by simp [hk85]) ?_
               refine W.skip ?_
               refine WQ.block_normal ?_
               refine WQ.then ?_
               refine W.region ?_
               refine omv ?_
               first | refine ov vaddN ?_ | refine ov vadd ?_
               refine oas ?_
               refine WL.nil ?_
               exact ag ((i + 1, mr, r85.a, r85.c, r85.m, r85.ck)) [16, 17, 0, 1, 2, 3, 6, 7, 8, 9, 10, 11, 12, 13, 40, 57] (by (try dsimp only); exact ⟨by omega, hJ85, hw85.link.trans hli, hw85.susp.trans hsu, by rw [hw85.n, hw85.t, tk3, tk2]; omega, by omega, by rw [hw85.t, tk2]; omega, by rw [hw85.ms]; exact hms, by rw [hw85.many]; omega⟩) (by (try dsimp only); omega) rfl cov
           · refine W.exit ?_
             refine WQ.then_exit ?_
             refine WQ.then_exit ?_
             refine WQ.block_hit ?_
             refine WQ.then ?_
             refine W.seq ?_
             obtain rfl : i = 7 := by omega
             refine W.region ?_
             refine omv ?_
             refine omv ?_
             refine oy rfl rfl ?_
             refine omv ?_
             refine oy rfl rfl ?_
             refine ov (v2 V_eql) ?_
             refine ov (V_pick_t rfl rfl rfl) ?_
             refine omv ?_
             refine oy rfl rfl ?_
             refine omv ?_
             refine oy rfl rfl ?_
             refine omv ?_
             refine oy rfl rfl ?_
             refine ov (V_min rfl) ?_
             refine oy rfl rfl ?_
             refine ov (v2 V_eql) ?_
             refine ov (V_pick_t rfl rfl rfl) ?_
             refine omv ?_
             refine oy rfl (decide_eq_true (by omega)) ?_
             refine omv ?_
             refine oy rfl (decide_eq_true (by omega)) ?_
             refine omv ?_
             refine oy rfl (decide_eq_true (by omega)) ?_
             first | refine ov vsubN ?_ | refine ov vsub ?_
             refine oy rfl (decide_eq_true (by omega)) ?_
             refine omv ?_
             refine oy rfl (decide_eq_true (by omega)) ?_
             first | refine ov vquo ?_ | refine ov (V_quo rfl rfl (by omega)) ?_
             refine oy rfl (decide_eq_true (by omega)) ?_
             first | refine ov vaddN ?_ | refine ov vadd ?_
             refine oy rfl (decide_eq_true (by omega)) ?_
             refine ov (V_min rfl) ?_
             refine oy rfl (decide_eq_true (by omega)) ?_
             refine ov (v2 V_eql) ?_
             refine ov (V_pick_t rfl (decide_eq_true (by omega)) rfl) ?_
             refine oas ?_
             refine nq ?_
             refine W.ret ?_
             refine WQ.ret1 Try.results7 (.tmp rfl) ?_
             intro w' hp; exact ⟨by first | rfl | (simp; omega), hp.forget⟩

end Go.Proofs.Ytmeckbjinmgbbaa