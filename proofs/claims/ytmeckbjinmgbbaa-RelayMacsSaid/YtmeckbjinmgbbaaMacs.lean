/- RelayMacs: its walk. -/
import Derived.Test.YtmeckbjinmgbbaaInv
set_option linter.unusedVariables false
set_option linter.unusedSimpArgs false

namespace Go.Proofs.Ytmeckbjinmgbbaa
open Go.X

theorem relayMacs_calls (l0 : List Int) (e0 : l0.length = 32) (hb0 : bytes l0) (a1 a2 : Int) (ha1 : a1 ≤ 9223372036854775807) (w : World) :
    Calls Try.prog 4 [AG [(32, iv .u8 l0)], .int .i64 a1, .int .i64 a2].toArray w fun e w' => e = .returned (.bool true) ∧ HP w w' [] [] := by
 refine calls_of_W Try.func4 rfl Try.ntmps4 rfl rfl (HP.refl w []) ?_
 refine sr ?_
 refine obxa (fun b3 => ?_)
 refine oas ?_
 refine nx ?_
 refine cp rfl (fun w hp => awake20_calls w) ?_
 refine oas ?_
 refine nx ?_
 refine ov (vlda 32) ?_
 refine cg rfl (fun w hp => begun20_calls l0 e0 w) (fun b25 h25 => ?_)
 refine oas ?_
 refine nq ?_
 refine W.seq ?_
 refine sr ?_
 refine omv ?_
 refine ov (V_eqlP (by kernel_rfl) rfl rfl) ?_
 refine omv ?_
 refine oy rfl rfl ?_
 refine omv ?_
 refine oy rfl rfl ?_
 refine ov (v2 V_lss) ?_
 refine ov (V_pick_f rfl rfl rfl) ?_
 refine omv ?_
 refine WL.splitD rfl (fun g1 => ?_) (fun g1 => ?_)
 · refine on rfl (decide_eq_true g1) ?_
   refine on rfl (decide_eq_true g1) ?_
   refine ov (V_pick_td rfl g1 rfl) ?_
   refine omv ?_
   refine on rfl rfl ?_
   refine on rfl rfl ?_
   refine ov (V_pick_t rfl rfl rfl) ?_
   refine nq ?_
   refine W.cond_true rfl rfl ?_
   refine sr ?_
   refine omv ?_
   refine omv ?_
   refine oy rfl rfl ?_
   refine omv ?_
   refine oy rfl rfl ?_
   refine ov (V_neqP (by kernel_rfl) rfl rfl) ?_
   refine ov (V_pick_t rfl rfl rfl) ?_
   refine oas ?_
   refine nq ?_
   refine W.ret ?_
   refine WQ.then_ret ?_
   refine WQ.ret1 Try.results4 (.tmp rfl) ?_
   intro w' hp; exact ⟨by first | rfl | (rw [hl119]; rfl), hp.forget⟩
 · refine oy rfl (decide_eq_false g1) ?_
   refine omv ?_
   refine oy rfl (decide_eq_false g1) ?_
   refine ov (v2 V_lss) ?_
   refine ov (V_pick_fd rfl g1 rfl) ?_
   refine omv ?_
   refine WL.splitD rfl (fun g2 => ?_) (fun g2 => ?_)
   · refine on rfl (decide_eq_true g2) ?_
     refine on rfl (decide_eq_true g2) ?_
     refine ov (V_pick_td rfl g2 rfl) ?_
     refine nq ?_
     refine W.cond_true rfl rfl ?_
     refine sr ?_
     refine omv ?_
     refine omv ?_
     refine oy rfl rfl ?_
     refine omv ?_
     refine oy rfl rfl ?_
     refine ov (V_neqP (by kernel_rfl) rfl rfl) ?_
     refine ov (V_pick_t rfl rfl rfl) ?_
     refine oas ?_
     refine nq ?_
     refine W.ret ?_
     refine WQ.then_ret ?_
     refine WQ.ret1 Try.results4 (.tmp rfl) ?_
     intro w' hp; exact ⟨by first | rfl | (rw [hl119]; rfl), hp.forget⟩
   · refine oy rfl (decide_eq_false g2) ?_
     refine omv ?_
     refine oy rfl (decide_eq_false g2) ?_
     refine ov (v2 V_gtr) ?_
     refine ov (V_pick_fd rfl g2 rfl) ?_
     refine nq ?_
     refine W.cond_dec rfl (fun g3 => ?_) (fun g3 => ?_)
     · refine W.seq ?_
       refine W.region ?_
       refine omv ?_
       refine omv ?_
       refine oy rfl rfl ?_
       refine omv ?_
       refine oy rfl rfl ?_
       refine ov (V_neqP (by kernel_rfl) rfl rfl) ?_
       refine ov (V_pick_t rfl rfl rfl) ?_
       refine oas ?_
       refine nq ?_
       refine W.ret ?_
       refine WQ.then_ret ?_
       refine WQ.ret1 Try.results4 (.tmp rfl) ?_
       intro w' hp; exact ⟨by first | rfl | (rw [hl119]; rfl), hp.forget⟩
     · refine W.skip ?_
       refine WQ.then ?_
       refine sr ?_
       refine obsI (k := .u8) 5 1 [120] (fun b45 => ?_)
       refine oro ?_
       refine ov (V_build (by kernel_rfl) (zi (zs := [(1, [.int .i64 0]), (1, [.int .i64 0]), (32, List.replicate 32 (.int .u8 0)), (32, List.replicate 32 (.int .u8 0)), (1, [.int .i64 0]), (1, [.int .i64 0]), (1, [.slice none 0 0])])) (.one (k := 0) rfl rfl (by kernel_rfl) rfl (.one (k := 1) rfl rfl (by kernel_rfl) rfl (.one (k := 68) rfl rfl (by kernel_rfl) rfl (.nil _))))) ?_
       refine oal [(1, [.int .i64 0]), (1, [.int .i64 0]), (32, List.replicate 32 (.int .u8 0)), (32, List.replicate 32 (.int .u8 0)), (1, [.int .i64 0]), (1, [.int .i64 0]), (1, [.slice none 0 0])] (fun b9 => ?_)
       refine osta 69 ?_
       refine nq ?_
       refine W.seq ?_
       have hve := vE_ok (f := 1) (t := 2) (x := 120) (A := some ⟨b45, 0, none⟩) (by decide)
       have hvh := vE_he (f := 1) (t := 2) (A := some ⟨b45, 0, none⟩) (by decide) (by decide)
       obtain ⟨n2, rfl⟩ : ∃ n : Nat, a2 = n := ⟨a2.toNat, by omega⟩
       apply W.j1
       · intro hJ
         refine dr (.q 1 (.l2 0 (.l2 2 (.q 3 (.q 4 (.q 5 (.l 6 (.l 7 (.q 8 (.done))))))) 6 (.l 2 (.q 3 (.q 4 (.q 5 (.l 7 (.q 8 (.done)))))))) 6 (.l 0 (.l 2 (.q 3 (.q 4 (.q 5 (.l 7 (.q 8 (.done)))))))))) [(b9, _)] ?_
         refine dq rfl (vlda 69) ?_
         refine WD.l2 ?_ ?_
         · refine dcp rfl rfl (fun w hp => link20_calls 1 w) ?_
           refine WD.l2 ?_ ?_
           · refine dcp rfl rfl (fun w hp => tag20_calls (lnk 1) lnk_len lnk_bytes (vE 1 2 (some ⟨b45, 0, none⟩)) (some ⟨b45, 0, none⟩) 1 1 [120] hve hvh w sw) ?_
             refine dq rfl (V_move rfl) ?_
             refine dq rfl vex ?_
             refine dq rfl vex ?_
             refine WD.l ?_
             refine dal rfl [(32, List.replicate 32 (.int .u8 0))] (fun b10 => ?_)
             refine WD.l ?_
             refine dsta rfl 32 ?_
             refine dq rfl (V_assign rfl) ?_
             refine WD.done ?_
             exact WQ.pick (S' := [(0, _), (1, _), (2, _), (3, _), (6, _), (7, _), (8, _), (9, _), (10, _), (11, _), (39, _)]) [0, 1, 2, 3, 6, 7, 8, 9, 10, 11, 39] rfl (hJ b10)
           · refine dal rfl [(32, List.replicate 32 (.int .u8 0))] (fun b10 => ?_)
             refine WD.l ?_
             refine dcp rfl rfl (fun w hp => tag20_calls (lnk 1) lnk_len lnk_bytes (vE 1 2 (some ⟨b45, 0, none⟩)) (some ⟨b45, 0, none⟩) 1 1 [120] hve hvh w sw) ?_
             refine dq rfl (V_move rfl) ?_
             refine dq rfl vex ?_
             refine dq rfl vex ?_
             refine WD.l ?_
             refine dsta rfl 32 ?_
             refine dq rfl (V_assign rfl) ?_
             refine WD.done ?_
             exact WQ.pick (S' := [(0, _), (1, _), (2, _), (3, _), (6, _), (7, _), (8, _), (9, _), (10, _), (11, _), (39, _)]) [0, 1, 2, 3, 6, 7, 8, 9, 10, 11, 39] rfl (hJ b10)
         · refine dal rfl [(32, List.replicate 32 (.int .u8 0))] (fun b10 => ?_)
           refine WD.l ?_
           refine dcp rfl rfl (fun w hp => link20_calls 1 w) ?_
           refine WD.l ?_
           refine dcp rfl rfl (fun w hp => tag20_calls (lnk 1) lnk_len lnk_bytes (vE 1 2 (some ⟨b45, 0, none⟩)) (some ⟨b45, 0, none⟩) 1 1 [120] hve hvh w sw) ?_
           refine dq rfl (V_move rfl) ?_
           refine dq rfl vex ?_
           refine dq rfl vex ?_
           refine WD.l ?_
           refine dsta rfl 32 ?_
           refine dq rfl (V_assign rfl) ?_
           refine WD.done ?_
           exact WQ.pick (S' := [(0, _), (1, _), (2, _), (3, _), (6, _), (7, _), (8, _), (9, _), (10, _), (11, _), (39, _)]) [0, 1, 2, 3, 6, 7, 8, 9, 10, 11, 39] rfl (hJ b10)
       intro b10
       refine WQ.then ?_
       refine sr ?_
       refine ov (vlda 32) ?_
       refine oal [(32, List.replicate 32 (.int .u8 0))] (fun b12 => ?_)
       refine osta 32 ?_
       refine nq ?_
       refine W.seq ?_
       refine dr (.q 0 (.q 1 (.q 2 (.q 3 (.q 4 (.q 5 (.q 6 (.q 8 (.q 9 (.q 10 (.l 7 (.q 11 (.q 12 (.l 13 (.done))))))))))))))) [] ?_
       refine dq rfl (V_move rfl) ?_
       first | refine dq rfl vquo ?_ | refine dq rfl (V_quo rfl rfl (by omega)) ?_
       first | refine dq rfl vrem ?_ | refine dq rfl (V_rem rfl rfl (by omega)) ?_
       refine dq rfl (V_move rfl) ?_
       first | refine dq rfl vquo ?_ | refine dq rfl (V_quo rfl rfl (by omega)) ?_
       first | refine dq rfl vrem ?_ | refine dq rfl (V_rem rfl rfl (by omega)) ?_
       first | refine dq rfl (viA0 32) ?_ | refine dq rfl (viA0Z 32) ?_
       refine dq rfl (V_move rfl) ?_
       first | refine dq rfl vrem ?_ | refine dq rfl (V_rem rfl rfl (by omega)) ?_
       refine dq rfl (V_shl rfl rfl (by omega)) ?_
       refine WD.l ?_
       first | refine dv rfl vldI ?_ | refine dv rfl vld ?_
       refine dq rfl (v2 V_xor) ?_
       first | refine dq rfl (viA0 32) ?_ | refine dq rfl (viA0Z 32) ?_
       refine WD.l ?_
       first | refine dstI rfl ?_ | refine dst rfl ?_
       refine WD.done ?_
       refine WQ.then ?_
       refine W.seq ?_
       refine W.seq ?_
       change W _ _ _ _ ((b12, .cells [(32, iv .u8 (badF (tgL (lnk 1) (vE 1 2 (some ⟨b45, 0, none⟩)) [120]) (a1 / 8 % 32).toNat (shlI .u8 1 (a1 % 8))))] _) :: _)
       refine W.region ?_
       refine oas ?_
       refine nq ?_
       refine W.block ?_
       -- LOOP 0
       refine W.pick (S' := [(13, _), (0, _), (1, _), (2, _), (3, _), (6, _), (7, _), (8, _), (9, _), (10, _), (11, _), (12, _), (39, _)]) [13, 0, 1, 2, 3, 6, 7, 8, 9, 10, 11, 12, 39] rfl ?_
       refine W.loopG (σ := Nat × PAcc × PAcc × List Ent × Nat) (fun ⟨i, xa, xc, m, ck⟩ => i ≤ n2 ∧ J2 b25.2.2.1.p b25.2.2.2.p l0 xa xc m ∧ xa.link = lnk 1 ∧ xa.susp = false ∧ xa.n = 5 ∧ xa.t = 0 ∧ xc.ms.length = 0 ∧ xc.many = 0) (fun ⟨i, xa, xc, m, ck⟩ => [(13, .int .i64 (i : Nat))]) (fun ⟨i, xa, xc, m, ck⟩ => []) [(b12, _), (b10, _), (b9, _), (b45, _), (b25.1.1, _), (b3, _)] (fun ⟨i, xa, xc, m, ck⟩ => stpL b25.1.2 5 l0 m ck ++ (accP b25.2.1 ++ (accP xa ++ accP xc))) (fun ⟨i, xa, xc, m, ck⟩ => n2 - i) (0, b25.2.2.1, b25.2.2.2, [], 0) rfl cov ⟨Nat.zero_le _, ⟨h25.2.1.1, h25.2.2.1, rfl, rfl, Good.nil⟩, (PAcc.fld h25.2.1.2).1, (PAcc.fld h25.2.1.2).2.1, (PAcc.fld h25.2.1.2).2.2.2.1, (PAcc.fld h25.2.1.2).2.2.1, (PAcc.fld h25.2.2.2).2.2.2.2.1, h25.z.2.2⟩ ?_
       rintro ⟨i, xa, xc, m, ck⟩ ⟨hi, hJ, hli, hsu, hn, ht, hms, hmy⟩; dsimp only at hi hJ hli hsu hn ht hms hmy ⊢
       refine W.seq ?_
       refine sr ?_
       refine omv ?_
       refine omv ?_
       refine ov (v2 V_lss) ?_
       refine nq ?_
       refine W.cond_dec rfl (fun g4 => ?_) (fun g4 => ?_)
       · refine W.skip ?_
         refine WQ.then ?_
         refine W.seq ?_
         refine W.block ?_
         refine sr ?_
         refine omv ?_
         refine ov (vlda 69) ?_
         refine ov (vlda 32) ?_
         refine cgP _ rfl (fun w hp => snd20_calls b25.1.1 b25.1.2 5 l0 (by decide) e0 hb0 (ps3 b25.2.1.p b25.2.2.1.p b25.2.2.2.p) rfl m ck hJ.g (vE 1 2 (some ⟨b45, 0, none⟩)) (some ⟨b45, 0, none⟩) 1 1 [120] hve hvh (badF (tgL (lnk 1) (vE 1 2 (some ⟨b45, 0, none⟩)) [120]) (a1 / 8 % 32).toNat (shlI .u8 1 (a1 % 8))) (by rw [badF_len]; exact tgL_len) (badF_bytes tgL_bytes) 5 (by show ¬ ((1 : Int) = 2 ∨ (5 : Int) < 0 ∨ (1000000 : Int) < 5); decide) xa xc hJ.oka hJ.okc (by rw [hJ.pa]; rfl) (by rw [hJ.pc]; rfl) (by omega) w (HP.here hp cov) (fun w1 M h1 => Sr.pastP hp h1 (hs := by exact Sr.ownR (by repeat (first | exact At.headR | apply At.tail)) iv_one))) (fun r77 h77 => ?_)
         simp only [List.cons_append, List.nil_append, List.append_nil, List.append_assoc]
         refine WL.back (stpL b25.1.2 5 l0 r77.m r77.ck) ?_
         simp only [List.cons_append, List.nil_append, List.append_nil, List.append_assoc]
         refine WL.back (accP r77.a) ?_
         simp only [List.cons_append, List.nil_append, List.append_nil, List.append_assoc]
         refine WL.back (accP r77.c) ?_
         simp only [List.cons_append, List.nil_append, List.append_nil, List.append_assoc]
         have hsc77 := h77.sc
         have hst77 := h77.st
         unfold stV
         obtain ⟨hk77, hs77⟩ := h77.mac' (by rw [hli]; exact badF_ne tgL_bytes (by rw [tgL_len]; omega) (by omega) (by omega))
         refine omv ?_
         refine ov vex ?_
         refine ov vex ?_
         refine oal [(1, [.int .i64 0]), (1, [.int .i64 0]), (1, [.int .i64 0]), (1, [.int .i64 0]), (32, List.replicate 32 (.int .u8 0)), (32, List.replicate 32 (.int .u8 0))] (fun b14 => ?_)
         refine osta 68 ?_
         refine oas ?_
         refine nx ?_
         refine omv ?_
         refine ov (v2 V_neq) ?_
         refine nq ?_
         refine W.cond_false rfl (by simp [hk77]) ?_
         refine W.skip ?_
         refine WQ.block_normal ?_
         refine WQ.then ?_
         refine W.region ?_
         refine omv ?_
         first | refine ov vaddN ?_ | refine ov vadd ?_
         refine oas ?_
         refine WL.nil ?_
         exact ag ((i + 1, r77.a, r77.c, r77.m, r77.ck)) [13, 0, 1, 2, 3, 6, 7, 8, 9, 10, 11, 12, 39] (by (try dsimp only); exact ⟨by omega, hJ.snd h77, hs77.link.trans hli, hs77.susp.trans hsu, hs77.n.trans hn, hs77.t.trans ht, hs77.len.trans hms, hs77.many.trans hmy⟩) (by (try dsimp only); omega) rfl cov
       · refine W.exit ?_
         refine WQ.then_exit ?_
         refine WQ.then_exit ?_
         refine WQ.block_hit ?_
         refine WQ.then ?_
         refine W.seq ?_
         refine W.seq ?_
         obtain rfl : i = n2 := by omega
         refine W.region ?_
         refine oas ?_
         refine nq ?_
         refine W.block ?_
         -- LOOP 1
         refine W.pick (S' := [(16, _), (0, _), (1, _), (2, _), (3, _), (6, _), (7, _), (8, _), (9, _), (10, _), (11, _), (12, _), (13, _), (39, _), (70, _)]) [16, 0, 1, 2, 3, 6, 7, 8, 9, 10, 11, 12, 13, 39, 70] rfl ?_
         refine W.loopG (σ := Nat × PAcc × PAcc × List Ent × Nat) (fun ⟨i, xa, xc, m, ck⟩ => i ≤ 5 ∧ J2 b25.2.2.1.p b25.2.2.2.p l0 xa xc m ∧ xa.link = lnk 1 ∧ xa.susp = false ∧ xa.n = 5 - i ∧ (0 ≤ xa.t ∧ xa.t ≤ 5) ∧ xc.ms.length = i ∧ xc.many = i) (fun ⟨i, xa, xc, m, ck⟩ => [(16, .int .i64 (i : Nat))]) (fun ⟨i, xa, xc, m, ck⟩ => []) [(b12, _), (b10, _), (b9, _), (b45, _), (b25.1.1, _), (b3, _)] (fun ⟨i, xa, xc, m, ck⟩ => stpL b25.1.2 5 l0 m ck ++ (accP b25.2.1 ++ (accP xa ++ accP xc))) (fun ⟨i, xa, xc, m, ck⟩ => 5 - i) (0, xa, xc, m, ck) rfl cov ⟨Nat.zero_le _, hJ, hli, hsu, by omega, by omega, hms, hmy⟩ ?_
         rintro ⟨i, xa, xc, m, ck⟩ ⟨hi, hJ, hli, hsu, hn, ht, hms, hmy⟩; dsimp only at hi hJ hli hsu hn ht hms hmy ⊢
         refine W.seq ?_
         refine sr ?_
         refine omv ?_
         refine ov (v2 V_lss) ?_
         refine nq ?_
         refine W.cond_dec rfl (fun g5 => ?_) (fun g5 => ?_)
         · refine W.skip ?_
           refine WQ.then ?_
           refine W.seq ?_
           refine W.block ?_
           refine sr ?_
           refine omv ?_
           refine ov (vlda 69) ?_
           refine ov (vlda 32) ?_
           refine cgP _ rfl (fun w hp => snd20_calls b25.1.1 b25.1.2 5 l0 (by decide) e0 hb0 (ps3 b25.2.1.p b25.2.2.1.p b25.2.2.2.p) rfl m ck hJ.g (vE 1 2 (some ⟨b45, 0, none⟩)) (some ⟨b45, 0, none⟩) 1 1 [120] hve hvh (tgL (lnk 1) (vE 1 2 (some ⟨b45, 0, none⟩)) [120]) tgL_len tgL_bytes 5 (by show ¬ ((1 : Int) = 2 ∨ (5 : Int) < 0 ∨ (1000000 : Int) < 5); decide) xa xc hJ.oka hJ.okc (by rw [hJ.pa]; rfl) (by rw [hJ.pc]; rfl) (by omega) w (HP.here hp cov) (fun w1 M h1 => Sr.pastP hp h1 (hs := by exact Sr.ownR (by repeat (first | exact At.headR | apply At.tail)) iv_one))) (fun r90 h90 => ?_)
           simp only [List.cons_append, List.nil_append, List.append_nil, List.append_assoc]
           refine WL.back (stpL b25.1.2 5 l0 r90.m r90.ck) ?_
           simp only [List.cons_append, List.nil_append, List.append_nil, List.append_assoc]
           refine WL.back (accP r90.a) ?_
           simp only [List.cons_append, List.nil_append, List.append_nil, List.append_assoc]
           refine WL.back (accP r90.c) ?_
           simp only [List.cons_append, List.nil_append, List.append_nil, List.append_assoc]
           have hsc90 := h90.sc
           have hst90 := h90.st
           unfold stV
           obtain ⟨tk1, tk2, tk3⟩ := take_ok (t := xa.t) (n := xa.n) (now := 5) (by omega) (by omega) (by omega)
           have hw90 := h90.went (by rw [hli]) hsu (by omega) tk1
           have hs90 := hw90.s.trans (stampF_yes (mayB_of hvh (by decide)))
           have hsf90 : r90.s.fr = 1 := by rw [hs90]; rfl
           have hst90' : r90.s.to = 2 := by rw [hs90]; rfl
           have hsi90 : r90.s.time = 5 := by rw [hs90]
           refine omv ?_
           refine ov vex ?_
           refine ov vex ?_
           refine oal [(1, [.int .i64 0]), (1, [.int .i64 0]), (1, [.int .i64 0]), (1, [.int .i64 0]), (32, List.replicate 32 (.int .u8 0)), (32, List.replicate 32 (.int .u8 0))] (fun b17 => ?_)
           refine osta 68 ?_
           refine oas ?_
           refine nx ?_
           refine omv ?_
           refine ov (v2 V_neq) ?_
           refine omv ?_
           refine oy rfl (by simp [hw90.k]) ?_
           refine ov (vfa0 1 1) ?_
           refine oy rfl (by simp [hw90.k]) ?_
           refine ov vld ?_
           refine oy rfl (by simp [hw90.k]) ?_
           refine ov (v2 V_neq) ?_
           refine ov (V_pick_f rfl (by simp [hw90.k]) rfl) ?_
           refine omv ?_
           refine oy rfl (by simp [hsf90]) ?_
           refine ov (vfa0 2 1) ?_
           refine oy rfl (by simp [hsf90]) ?_
           refine ov vld ?_
           refine oy rfl (by simp [hsf90]) ?_
           refine ov (v2 V_neq) ?_
           refine ov (V_pick_f rfl (by simp [hsf90]) rfl) ?_
           refine omv ?_
           refine oy rfl (by simp [hst90']) ?_
           refine ov (vfa0 3 1) ?_
           refine oy rfl (by simp [hst90']) ?_
           refine ov vld ?_
           refine oy rfl (by simp [hst90']) ?_
           refine ov (v2 V_neq) ?_
           refine ov (V_pick_f rfl (by simp [hst90']) rfl) ?_
           refine nq ?_
           refine W.cond_false rfl (by simp [hsi90]) ?_
           refine W.skip ?_
           refine WQ.block_normal ?_
           refine WQ.then ?_
           refine W.region ?_
           refine omv ?_
           first | refine ov vaddN ?_ | refine ov vadd ?_
           refine oas ?_
           refine WL.nil ?_
           exact ag ((i + 1, r90.a, r90.c, r90.m, r90.ck)) [16, 0, 1, 2, 3, 6, 7, 8, 9, 10, 11, 12, 13, 39, 70] (by (try dsimp only); exact ⟨by omega, hJ.snd h90, hw90.link.trans hli, hw90.susp.trans hsu, by rw [hw90.n, tk3]; omega, by rw [hw90.t, tk2]; omega, by rw [hw90.len]; omega, by rw [hw90.many]; omega⟩) (by (try dsimp only); omega) rfl cov
         · refine W.exit ?_
           refine WQ.then_exit ?_
           refine WQ.then_exit ?_
           refine WQ.block_hit ?_
           refine WQ.then ?_
           refine W.seq ?_
           obtain rfl : i = 5 := by omega
           refine W.region ?_
           refine omv ?_
           refine ov (vlda 69) ?_
           refine ov (vlda 32) ?_
           refine cgP _ rfl (fun w hp => snd20_calls b25.1.1 b25.1.2 5 l0 (by decide) e0 hb0 (ps3 b25.2.1.p b25.2.2.1.p b25.2.2.2.p) rfl m ck hJ.g (vE 1 2 (some ⟨b45, 0, none⟩)) (some ⟨b45, 0, none⟩) 1 1 [120] hve hvh (tgL (lnk 1) (vE 1 2 (some ⟨b45, 0, none⟩)) [120]) tgL_len tgL_bytes 5 (by show ¬ ((1 : Int) = 2 ∨ (5 : Int) < 0 ∨ (1000000 : Int) < 5); decide) xa xc hJ.oka hJ.okc (by rw [hJ.pa]; rfl) (by rw [hJ.pc]; rfl) (by omega) w (HP.here hp cov) (fun w1 M h1 => Sr.pastP hp h1 (hs := by exact Sr.ownR (by repeat (first | exact At.headR | apply At.tail)) iv_one))) (fun r114 h114 => ?_)
           simp only [List.cons_append, List.nil_append, List.append_nil, List.append_assoc]
           refine WL.back (stpL b25.1.2 5 l0 r114.m r114.ck) ?_
           simp only [List.cons_append, List.nil_append, List.append_nil, List.append_assoc]
           refine WL.back (accP r114.a) ?_
           simp only [List.cons_append, List.nil_append, List.append_nil, List.append_assoc]
           refine WL.back (accP r114.c) ?_
           simp only [List.cons_append, List.nil_append, List.append_nil, List.append_assoc]
           have hsc114 := h114.sc
           have hst114 := h114.st
           unfold stV
           obtain ⟨tk1, tk2, tk3⟩ := take_no (t := xa.t) (n := xa.n) (now := 5) (by omega) (by omega) (by omega)
           have hw114 := h114.rated (by rw [hli]) hsu (by omega) (by omega)
           have hk114 : r114.k = 10 := hw114.k.trans tk1
           refine omv ?_
           refine ov vex ?_
           refine ov vex ?_
           refine oal [(1, [.int .i64 0]), (1, [.int .i64 0]), (1, [.int .i64 0]), (1, [.int .i64 0]), (32, List.replicate 32 (.int .u8 0)), (32, List.replicate 32 (.int .u8 0))] (fun b19 => ?_)
           refine osta 68 ?_
           refine oas ?_
           refine nx ?_
           refine omv ?_
           refine cgP _ rfl (fun w hp => mails20_calls b25.1.2.r b25.1.1 (ps3 b25.2.1.p b25.2.2.1.p b25.2.2.2.p) rfl 2 r114.c h114.okc (by rw [h114.pc, hJ.pc]; rfl) w (HP.here hp cov)) (fun r119 h119 => ?_)
           simp only [List.cons_append, List.nil_append, List.append_nil, List.append_assoc]
           refine WL.back (accP r114.c) ?_
           simp only [List.cons_append, List.nil_append, List.append_nil, List.append_assoc]
           refine WL.back (gLM 138 r119.1 r119.2.length (r119.2.flatMap mlV) 68) ?_
           simp only [List.cons_append, List.nil_append, List.append_nil, List.append_assoc]
           refine WL.back (r119.2.flatMap mbL) ?_
           simp only [List.cons_append, List.nil_append, List.append_nil, List.append_assoc]
           have hml119 := POK.len h119.1
           have hl119 : r119.2.length = 5 := by rw [hml119, absms, hw114.len]; omega
           refine omv ?_
           refine ov vex ?_
           refine ov vex ?_
           refine oas ?_
           refine oas ?_
           refine nx ?_
           refine omv ?_
           refine omv ?_
           refine oy rfl rfl ?_
           refine omv ?_
           refine oy rfl rfl ?_
           refine ov (v2 V_eql) ?_
           refine ov (V_pick_t rfl rfl rfl) ?_
           refine omv ?_
           refine oy rfl rfl ?_
           refine omv ?_
           refine oy rfl rfl ?_
           refine ov (v2 V_eql) ?_
           refine ov (V_pick_t rfl rfl rfl) ?_
           refine omv ?_
           refine oy rfl (decide_eq_true hk114) ?_
           refine omv ?_
           refine oy rfl (decide_eq_true hk114) ?_
           refine ov (v2 V_eql) ?_
           refine ov (V_pick_t rfl (decide_eq_true hk114) rfl) ?_
           refine omv ?_
           refine oy rfl rfl ?_
           refine omv ?_
           refine oy rfl rfl ?_
           refine ov vlenS ?_
           refine oy rfl rfl ?_
           refine ov (v2 V_eql) ?_
           refine ov (V_pick_t rfl rfl rfl) ?_
           refine oas ?_
           refine nq ?_
           refine W.ret ?_
           refine WQ.ret1 Try.results4 (.tmp rfl) ?_
           intro w' hp; exact ⟨by first | rfl | (rw [hl119]; rfl), hp.forget⟩

end Go.Proofs.Ytmeckbjinmgbbaa