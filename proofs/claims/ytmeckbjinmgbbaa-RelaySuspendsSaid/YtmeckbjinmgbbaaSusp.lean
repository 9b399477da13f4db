/- RelaySuspends: its walk. -/
import Derived.Test.YtmeckbjinmgbbaaSuspP
set_option linter.unusedVariables false
set_option linter.unusedSimpArgs false

namespace Go.Proofs.Ytmeckbjinmgbbaa
open Go.X

set_option maxRecDepth 8000 in
set_option maxHeartbeats 4000000 in
theorem relaySusp_calls (l0 : List Int) (e0 : l0.length = 32) (hb0 : bytes l0) (A : Option Addr) (n cap : Nat) (l : List Bool) (w : World) (hs : SrW w 1 A n (bv l)) (hl : l.length = n) (hn2 : n ≤ 9223372036854775807) :
    Calls Try.prog 8 [AG [(32, iv .u8 l0)], .slice A n cap].toArray w fun e w' => e = .returned (.bool true) ∧ HP w w' [] [] := by
 refine calls_of_W Try.func8 rfl Try.ntmps8 rfl rfl (HP.refl w []) ?_
 refine sr ?_
 refine obxa (fun b2 => ?_)
 refine oas ?_
 refine nx ?_
 refine cp rfl (fun w hp => awake20_calls w) ?_
 refine oas ?_
 refine nx ?_
 refine ov (vlda 32) ?_
 refine cg rfl (fun w hp => begun20_calls l0 e0 w) (fun b25 h25 => ?_)
 refine oas ?_
 refine nq ?_
 refine W.seq ?_
 refine sr ?_
 refine omv ?_
 refine ov (V_eqlP (by kernel_rfl) rfl rfl) ?_
 refine omv ?_
 refine oy rfl rfl ?_
 refine omv ?_
 refine oy rfl rfl ?_
 refine ov vlenS ?_
 refine oy rfl rfl ?_
 refine ov (v2 V_gtr) ?_
 refine ov (V_pick_f rfl rfl rfl) ?_
 refine nq ?_
 refine W.cond_dec rfl (fun g1 => ?_) (fun g1 => ?_)
 · refine W.seq ?_
   refine W.region ?_
   refine omv ?_
   refine omv ?_
   refine oy rfl rfl ?_
   refine omv ?_
   refine oy rfl rfl ?_
   refine ov (V_neqP (by kernel_rfl) rfl rfl) ?_
   refine ov (V_pick_t rfl rfl rfl) ?_
   refine oas ?_
   refine nq ?_
   refine W.ret ?_
   refine WQ.then_ret ?_
   refine WQ.ret1 Try.results8 (.tmp rfl) ?_
   intro w' hp; exact ⟨by first | rfl | (simp; done) | (simp [*]; done) | simp_all, hp.forget⟩
 · refine W.skip ?_
   refine WQ.then ?_
   refine sr ?_
   refine obsI (k := .u8) 5 1 [120] (fun b38 => ?_)
   refine oro ?_
   refine ov (V_build (by kernel_rfl) (zi (zs := [(1, [.int .i64 0]), (1, [.int .i64 0]), (32, List.replicate 32 (.int .u8 0)), (32, List.replicate 32 (.int .u8 0)), (1, [.int .i64 0]), (1, [.int .i64 0]), (1, [.slice none 0 0])])) (.one (k := 0) rfl rfl (by kernel_rfl) rfl (.one (k := 1) rfl rfl (by kernel_rfl) rfl (.one (k := 68) rfl rfl (by kernel_rfl) rfl (.nil _))))) ?_
   refine oal [(1, [.int .i64 0]), (1, [.int .i64 0]), (32, List.replicate 32 (.int .u8 0)), (32, List.replicate 32 (.int .u8 0)), (1, [.int .i64 0]), (1, [.int .i64 0]), (1, [.slice none 0 0])] (fun b7 => ?_)
   refine osta 69 ?_
   refine nx ?_
   refine obsI (k := .u8) 5 1 [121] (fun b41 => ?_)
   refine oro ?_
   refine ov (V_build (by kernel_rfl) (zi (zs := [(1, [.int .i64 0]), (1, [.int .i64 0]), (32, List.replicate 32 (.int .u8 0)), (32, List.replicate 32 (.int .u8 0)), (1, [.int .i64 0]), (1, [.int .i64 0]), (1, [.slice none 0 0])])) (.one (k := 0) rfl rfl (by kernel_rfl) rfl (.one (k := 1) rfl rfl (by kernel_rfl) rfl (.one (k := 68) rfl rfl (by kernel_rfl) rfl (.nil _))))) ?_
   refine oal [(1, [.int .i64 0]), (1, [.int .i64 0]), (32, List.replicate 32 (.int .u8 0)), (32, List.replicate 32 (.int .u8 0)), (1, [.int .i64 0]), (1, [.int .i64 0]), (1, [.slice none 0 0])] (fun b8 => ?_)
   refine osta 69 ?_
   refine nq ?_
   refine W.seq ?_
   apply W.j1
   · intro hJ
     refine dr (.q 1 (.l2 0 (.l2 2 (.q 3 (.q 4 (.q 5 (.l 6 (.l 7 (.q 8 (.done))))))) 6 (.l 2 (.q 3 (.q 4 (.q 5 (.l 7 (.q 8 (.done)))))))) 6 (.l 0 (.l 2 (.q 3 (.q 4 (.q 5 (.l 7 (.q 8 (.done)))))))))) [(b7, _)] ?_
     refine dq rfl (vlda 69) ?_
     refine WD.l2 ?_ ?_
     · refine dcp rfl rfl (fun w hp => link20_calls 1 w) ?_
       refine WD.l2 ?_ ?_
       · refine dcp rfl rfl (fun w hp => tag20_calls (lnk 1) lnk_len lnk_bytes (vE 1 2 (some ⟨b38, 0, none⟩)) (some ⟨b38, 0, none⟩) 1 1 [120] (vE_ok (by decide)) (vE_he (by decide) (by decide)) w sw) ?_
         refine dq rfl (V_move rfl) ?_
         refine dq rfl vex ?_
         refine dq rfl vex ?_
         refine WD.l ?_
         refine dal rfl [(32, List.replicate 32 (.int .u8 0))] (fun b9 => ?_)
         refine WD.l ?_
         refine dsta rfl 32 ?_
         refine dq rfl (V_assign rfl) ?_
         refine WD.done ?_
         exact WQ.pick (S' := [(0, _), (1, _), (2, _), (4, _), (5, _), (6, _), (7, _), (8, _), (9, _), (10, _), (32, _)]) [0, 1, 2, 4, 5, 6, 7, 8, 9, 10, 32] rfl (hJ b9)
       · refine dal rfl [(32, List.replicate 32 (.int .u8 0))] (fun b9 => ?_)
         refine WD.l ?_
         refine dcp rfl rfl (fun w hp => tag20_calls (lnk 1) lnk_len lnk_bytes (vE 1 2 (some ⟨b38, 0, none⟩)) (some ⟨b38, 0, none⟩) 1 1 [120] (vE_ok (by decide)) (vE_he (by decide) (by decide)) w sw) ?_
         refine dq rfl (V_move rfl) ?_
         refine dq rfl vex ?_
         refine dq rfl vex ?_
         refine WD.l ?_
         refine dsta rfl 32 ?_
         refine dq rfl (V_assign rfl) ?_
         refine WD.done ?_
         exact WQ.pick (S' := [(0, _), (1, _), (2, _), (4, _), (5, _), (6, _), (7, _), (8, _), (9, _), (10, _), (32, _)]) [0, 1, 2, 4, 5, 6, 7, 8, 9, 10, 32] rfl (hJ b9)
     · refine dal rfl [(32, List.replicate 32 (.int .u8 0))] (fun b9 => ?_)
       refine WD.l ?_
       refine dcp rfl rfl (fun w hp => link20_calls 1 w) ?_
       refine WD.l ?_
       refine dcp rfl rfl (fun w hp => tag20_calls (lnk 1) lnk_len lnk_bytes (vE 1 2 (some ⟨b38, 0, none⟩)) (some ⟨b38, 0, none⟩) 1 1 [120] (vE_ok (by decide)) (vE_he (by decide) (by decide)) w sw) ?_
       refine dq rfl (V_move rfl) ?_
       refine dq rfl vex ?_
       refine dq rfl vex ?_
       refine WD.l ?_
       refine dsta rfl 32 ?_
       refine dq rfl (V_assign rfl) ?_
       refine WD.done ?_
       exact WQ.pick (S' := [(0, _), (1, _), (2, _), (4, _), (5, _), (6, _), (7, _), (8, _), (9, _), (10, _), (32, _)]) [0, 1, 2, 4, 5, 6, 7, 8, 9, 10, 32] rfl (hJ b9)
   intro b9
   refine WQ.then ?_
   refine W.seq ?_
   apply W.j1
   · intro hJ
     refine dr (.q 1 (.l2 0 (.l2 2 (.q 3 (.q 4 (.q 5 (.l 6 (.l 7 (.q 8 (.done))))))) 6 (.l 2 (.q 3 (.q 4 (.q 5 (.l 7 (.q 8 (.done)))))))) 6 (.l 0 (.l 2 (.q 3 (.q 4 (.q 5 (.l 7 (.q 8 (.done)))))))))) [(b8, _)] ?_
     refine dq rfl (vlda 69) ?_
     refine WD.l2 ?_ ?_
     · refine dcp rfl rfl (fun w hp => link20_calls 0 w) ?_
       refine WD.l2 ?_ ?_
       · refine dcp rfl rfl (fun w hp => tag20_calls (lnk 0) lnk_len lnk_bytes (vE 0 1 (some ⟨b41, 0, none⟩)) (some ⟨b41, 0, none⟩) 1 1 [121] (vE_ok (by decide)) (vE_he (by decide) (by decide)) w sw) ?_
         refine dq rfl (V_move rfl) ?_
         refine dq rfl vex ?_
         refine dq rfl vex ?_
         refine WD.l ?_
         refine dal rfl [(32, List.replicate 32 (.int .u8 0))] (fun b11 => ?_)
         refine WD.l ?_
         refine dsta rfl 32 ?_
         refine dq rfl (V_assign rfl) ?_
         refine WD.done ?_
         exact WQ.pick (S' := [(0, _), (1, _), (2, _), (4, _), (5, _), (6, _), (7, _), (8, _), (9, _), (10, _), (11, _), (12, _), (32, _)]) [0, 1, 2, 4, 5, 6, 7, 8, 9, 10, 11, 12, 32] rfl (hJ b11)
       · refine dal rfl [(32, List.replicate 32 (.int .u8 0))] (fun b11 => ?_)
         refine WD.l ?_
         refine dcp rfl rfl (fun w hp => tag20_calls (lnk 0) lnk_len lnk_bytes (vE 0 1 (some ⟨b41, 0, none⟩)) (some ⟨b41, 0, none⟩) 1 1 [121] (vE_ok (by decide)) (vE_he (by decide) (by decide)) w sw) ?_
         refine dq rfl (V_move rfl) ?_
         refine dq rfl vex ?_
         refine dq rfl vex ?_
         refine WD.l ?_
         refine dsta rfl 32 ?_
         refine dq rfl (V_assign rfl) ?_
         refine WD.done ?_
         exact WQ.pick (S' := [(0, _), (1, _), (2, _), (4, _), (5, _), (6, _), (7, _), (8, _), (9, _), (10, _), (11, _), (12, _), (32, _)]) [0, 1, 2, 4, 5, 6, 7, 8, 9, 10, 11, 12, 32] rfl (hJ b11)
     · refine dal rfl [(32, List.replicate 32 (.int .u8 0))] (fun b11 => ?_)
       refine WD.l ?_
       refine dcp rfl rfl (fun w hp => link20_calls 0 w) ?_
       refine WD.l ?_
       refine dcp rfl rfl (fun w hp => tag20_calls (lnk 0) lnk_len lnk_bytes (vE 0 1 (some ⟨b41, 0, none⟩)) (some ⟨b41, 0, none⟩) 1 1 [121] (vE_ok (by decide)) (vE_he (by decide) (by decide)) w sw) ?_
       refine dq rfl (V_move rfl) ?_
       refine dq rfl vex ?_
       refine dq rfl vex ?_
       refine WD.l ?_
       refine dsta rfl 32 ?_
       refine dq rfl (V_assign rfl) ?_
       refine WD.done ?_
       exact WQ.pick (S' := [(0, _), (1, _), (2, _), (4, _), (5, _), (6, _), (7, _), (8, _), (9, _), (10, _), (11, _), (12, _), (32, _)]) [0, 1, 2, 4, 5, 6, 7, 8, 9, 10, 11, 12, 32] rfl (hJ b11)
   intro b11
   refine WQ.then ?_
   refine W.seq ?_
   refine sr ?_
   refine oas ?_
   refine nq ?_
   refine W.block ?_
   -- LOOP 0
   refine W.pick (S' := [(13, _), (0, _), (1, _), (2, _), (4, _), (5, _), (6, _), (7, _), (8, _), (9, _), (10, _), (11, _), (12, _), (32, _)]) [13, 0, 1, 2, 4, 5, 6, 7, 8, 9, 10, 11, 12, 32] rfl ?_
   refine W.loopG (σ := Nat × PAcc × PAcc × PAcc × List Ent × Nat) (fun ⟨i, x, y, z, m, ck⟩ => i ≤ n ∧ V3 b25.2.1.p b25.2.2.1.p b25.2.2.2.p l0 i x y z m 0 0) (fun ⟨i, x, y, z, m, ck⟩ => [(13, .int .i64 (i : Nat))]) (fun ⟨i, x, y, z, m, ck⟩ => []) [(b11, _), (b9, _), (b8, _), (b41, _), (b7, _), (b38, _), (b25.1.1, _), (b2, _)] (fun ⟨i, x, y, z, m, ck⟩ => stpL b25.1.2 5 l0 m ck ++ (accP x ++ (accP y ++ accP z))) (fun ⟨i, x, y, z, m, ck⟩ => n - i) (0, b25.2.1, b25.2.2.1, b25.2.2.2, [], 0) rfl cov ⟨Nat.zero_le _, V3.new h25.1 h25.2.1 h25.2.2 rfl rfl rfl⟩ ?_
   rintro ⟨i, x, y, z, m, ck⟩ ⟨hi, hB⟩; dsimp only at hi hB ⊢
   refine W.seq ?_
   refine sr ?_
   refine omv ?_
   refine omv ?_
   refine ov vlenS ?_
   refine ov (v2 V_lss) ?_
   refine nq ?_
   refine W.cond_dec rfl (fun g2 => ?_) (fun g2 => ?_)
   · refine W.skip ?_
     refine WQ.then ?_
     refine W.seq ?_
     refine W.block ?_
     refine W.seq ?_
     obtain ⟨u, hu⟩ : ∃ u, (bv l)[i]? = some (Value.bool u) := ⟨_, bv_get (by omega)⟩
     refine W.region ?_
     refine omv ?_
     refine omv ?_
     refine omv ?_
     obtain ⟨bbA, ooA, rfl⟩ := hs.hasN sc
     first | refine ov viS1 ?_ | refine ov viS1Z ?_
     refine ov (vldV _) ?_
     refine cgP _ rfl (fun w hp => sus20_calls b25.1.2.r b25.1.1 (ps3 b25.2.1.p b25.2.2.1.p b25.2.2.2.p) rfl 1 y hB.oky (by rw [hB.py]; rfl) u w (HP.here hp cov)) (fun r67 h67 => ?_)
     simp only [List.cons_append, List.nil_append, List.append_nil, List.append_assoc]
     refine WL.back (accP r67) ?_
     simp only [List.cons_append, List.nil_append, List.append_nil, List.append_assoc]
     refine oas ?_
     refine nx ?_
     refine omv ?_
     refine ov (vlda 69) ?_
     refine ov (vlda 32) ?_
     refine omv ?_
     first | refine ov vmulN ?_ | refine ov vmul ?_
     refine cgP _ rfl (fun w hp => snd20_calls b25.1.1 b25.1.2 5 l0 (by decide) e0 hb0 (ps3 b25.2.1.p b25.2.2.1.p b25.2.2.2.p) rfl m ck hB.g (vE 1 2 (some ⟨b38, 0, none⟩)) (some ⟨b38, 0, none⟩) 1 1 [120] (vE_ok (by decide)) (vE_he (by decide) (by decide)) (tgL (lnk 1) (vE 1 2 (some ⟨b38, 0, none⟩)) [120]) tgL_len tgL_bytes (20 * (i : Int)) (by show ¬ ((1 : Int) = 2 ∨ 20 * (i : Int) < 0 ∨ (1000000 : Int) < 20 * (i : Int)); omega) r67 z h67.1 hB.okz (by rw [h67.2.1, hB.py]; rfl) (by rw [hB.pz]; rfl) (by have := hB.mz; omega) w (HP.here hp cov) (fun w1 M h1 => Sr.pastP hp h1 (hs := by exact Sr.ownR (by repeat (first | exact At.headR | apply At.tail)) iv_one))) (fun r74 h74 => ?_)
     simp only [List.cons_append, List.nil_append, List.append_nil, List.append_assoc]
     refine WL.back (stpL b25.1.2 5 l0 r74.m r74.ck) ?_
     simp only [List.cons_append, List.nil_append, List.append_nil, List.append_assoc]
     refine WL.back (accP r74.a) ?_
     simp only [List.cons_append, List.nil_append, List.append_nil, List.append_assoc]
     refine WL.back (accP r74.c) ?_
     simp only [List.cons_append, List.nil_append, List.append_nil, List.append_assoc]
     have hsc74 := h74.sc
     have hst74 := h74.st
     unfold stV
     refine omv ?_
     refine ov vex ?_
     refine ov vex ?_
     refine oal [(1, [.int .i64 0]), (1, [.int .i64 0]), (1, [.int .i64 0]), (1, [.int .i64 0]), (32, List.replicate 32 (.int .u8 0)), (32, List.replicate 32 (.int .u8 0))] (fun b15 => ?_)
     refine osta 68 ?_
     refine oas ?_
     refine nx ?_
     refine omv ?_
     refine ov (vlda 69) ?_
     refine ov (vlda 32) ?_
     refine omv ?_
     first | refine ov vmulN ?_ | refine ov vmul ?_
     refine cgP _ rfl (fun w hp => snd20_calls b25.1.1 b25.1.2 5 l0 (by decide) e0 hb0 (ps3 b25.2.1.p b25.2.2.1.p b25.2.2.2.p) rfl r74.m r74.ck h74.g (vE 0 1 (some ⟨b41, 0, none⟩)) (some ⟨b41, 0, none⟩) 1 1 [121] (vE_ok (by decide)) (vE_he (by decide) (by decide)) (tgL (lnk 0) (vE 0 1 (some ⟨b41, 0, none⟩)) [121]) tgL_len tgL_bytes (20 * (i : Int)) (by show ¬ ((0 : Int) = 1 ∨ 20 * (i : Int) < 0 ∨ (1000000 : Int) < 20 * (i : Int)); omega) x r74.a hB.okx h74.oka (by rw [hB.px]; rfl) (by rw [h74.pa, h67.2.1, hB.py]; rfl) (by have := hB.my; have h5 : r67.many = y.many := (PAcc.fld h67.2.2).2.2.2.2.2.1; have h6 := h74.amany; have h7 : r74.a.many = r67.many := h6; omega) w (HP.here hp cov) (fun w1 M h1 => Sr.pastP hp h1 (hs := by exact Sr.ownR (by repeat (first | exact At.headR | apply At.tail)) iv_one))) (fun r83 h83 => ?_)
     simp only [List.cons_append, List.nil_append, List.append_nil, List.append_assoc]
     refine WL.back (stpL b25.1.2 5 l0 r83.m r83.ck) ?_
     simp only [List.cons_append, List.nil_append, List.append_nil, List.append_assoc]
     refine WL.back (accP r83.a) ?_
     simp only [List.cons_append, List.nil_append, List.append_nil, List.append_assoc]
     refine WL.back (accP r83.c) ?_
     simp only [List.cons_append, List.nil_append, List.append_nil, List.append_assoc]
     have hsc83 := h83.sc
     have hst83 := h83.st
     unfold stV
     obtain ⟨k2, hkt, hkf, hk83, hV0⟩ := hB.step (by omega) h67 h74 h83 rfl rfl
     have hk2 := hV0.bz.len.2
     refine omv ?_
     refine ov vex ?_
     refine ov vex ?_
     refine oal [(1, [.int .i64 0]), (1, [.int .i64 0]), (1, [.int .i64 0]), (1, [.int .i64 0]), (32, List.replicate 32 (.int .u8 0)), (32, List.replicate 32 (.int .u8 0))] (fun b17 => ?_)
     refine osta 68 ?_
     refine oas ?_
     refine nq ?_
     refine W.seq ?_
     refine W.seq ?_
     by_cases hut : u = true
     · obtain ⟨hk2v, hk74⟩ := hkt hut
       refine W.region ?_
       refine omv ?_
       refine ov (v2 V_neq) ?_
       refine omv ?_
       refine oy rfl (by decide) ?_
       refine omv ?_
       refine oy rfl (by decide) ?_
       refine ov (v2 V_eql) ?_
       refine oy rfl (by decide) ?_
       refine omv ?_
       refine oy rfl (by decide) ?_
       refine omv ?_
       refine oy rfl (by decide) ?_
       first | refine ov viS1 ?_ | refine ov viS1Z ?_
       refine oy rfl (by decide) ?_
       refine ov (vldV _) ?_
       refine oy rfl (by decide) ?_
       refine ov (V_neqB (by kernel_rfl) rfl rfl) ?_
       refine ov (V_pick_f rfl (by decide) rfl) ?_
       refine omv ?_
       refine oy rfl (by simp [hk74, hut]) ?_
       refine omv ?_
       refine oy rfl (by simp [hk74, hut]) ?_
       refine omv ?_
       refine oy rfl (by simp [hk74, hut]) ?_
       first | refine ov viS1 ?_ | refine ov viS1Z ?_
       refine oy rfl (by simp [hk74, hut]) ?_
       refine ov (vldV _) ?_
       refine oy rfl (by simp [hk74, hut]) ?_
       refine ov vnot ?_
       refine oy rfl (by simp [hk74, hut]) ?_
       refine omv ?_
       refine on rfl (by simp [hut]) ?_
       refine on rfl (by simp [hut]) ?_
       refine oy rfl (by simp [hk74, hut]) ?_
       refine ov (V_pick_f rfl (by simp [hut]) rfl) ?_
       refine ov (V_pick_f rfl (by simp [hk74, hut]) rfl) ?_
       refine omv ?_
       refine oy rfl rfl ?_
       refine omv ?_
       refine oy rfl rfl ?_
       refine ov (v2 V_neq) ?_
       refine ov (V_pick_f rfl rfl rfl) ?_
       refine nq ?_
       refine W.cond_false rfl (by simp [hk83]) ?_
       refine W.skip ?_
       refine WQ.then ?_
       refine sr ?_
       refine oas ?_
       refine nq ?_
       refine W.block ?_
       -- LOOP 1
       refine W.pick (S' := [(19, _), (0, _), (1, _), (2, _), (4, _), (5, _), (6, _), (7, _), (8, _), (9, _), (10, _), (11, _), (12, _), (13, _), (14, _), (16, _), (18, _), (32, _), (59, _), (111, _)]) [19, 0, 1, 2, 4, 5, 6, 7, 8, 9, 10, 11, 12, 13, 14, 16, 18, 32, 59, 111] rfl ?_
       refine W.loopG (σ := Nat × PAcc × PAcc) (fun ⟨n1, Y1, Z1⟩ => (1 ≤ n1 ∧ n1 ≤ 3) ∧ V3 b25.2.1.p b25.2.2.1.p b25.2.2.2.p l0 (i + 1) r83.a Y1 Z1 r83.m (2 - n1) (min k2 (3 - n1))) (fun ⟨n1, Y1, Z1⟩ => [(19, .int .i64 (n1 : Nat))]) (fun ⟨n1, Y1, Z1⟩ => []) [(b11, _), (b9, _), (b8, _), (b41, _), (b7, _), (b38, _), (b25.1.1, _), (b2, _)] (fun ⟨n1, Y1, Z1⟩ => stpL b25.1.2 5 l0 r83.m r83.ck ++ (accP r83.a ++ (accP Y1 ++ accP Z1))) (fun ⟨n1, Y1, Z1⟩ => 3 - n1) (1, r83.c, r74.c) rfl cov ⟨by omega, by rw [show min k2 (3 - 1) = k2 by omega]; exact hV0⟩ ?_
       rintro ⟨n1, Y1, Z1⟩ ⟨hn1, hV⟩; dsimp only at hn1 hV ⊢
       refine W.seq ?_
       refine sr ?_
       refine omv ?_
       refine ov (v2 V_lss) ?_
       refine nq ?_
       refine W.cond_dec rfl (fun g3 => ?_) (fun g3 => ?_)
       · refine W.skip ?_
         refine WQ.then ?_
         refine W.seq ?_
         refine W.block ?_
         refine W.seq ?_
         by_cases e1 : n1 = 1
         · subst e1
           rw [show 2 - 1 = 1 from rfl, show min k2 (3 - 1) = k2 by omega] at hV
           refine W.region ?_
           refine omv ?_
           refine omv ?_
           refine cgP _ rfl (fun w hp => mails20_calls b25.1.2.r b25.1.1 (ps3 b25.2.1.p b25.2.2.1.p b25.2.2.2.p) rfl ((1 : Nat) : Int) Y1 hV.oky (by rw [hV.py]; rfl) w (HP.here hp cov)) (fun r119 h119 => ?_)
           simp only [List.cons_append, List.nil_append, List.append_nil, List.append_assoc]
           refine WL.back (accP Y1) ?_
           simp only [List.cons_append, List.nil_append, List.append_nil, List.append_assoc]
           refine WL.back (gLM 138 r119.1 r119.2.length (r119.2.flatMap mlV) 68) ?_
           simp only [List.cons_append, List.nil_append, List.append_nil, List.append_assoc]
           refine WL.back (r119.2.flatMap mbL) ?_
           simp only [List.cons_append, List.nil_append, List.append_nil, List.append_assoc]
           have hml119 := POK.len h119.1
           rw [absms] at hml119
           rw [hV.by_.len.1] at hml119
           refine omv ?_
           refine ov vex ?_
           refine ov vex ?_
           refine oas ?_
           refine oas ?_
           refine nq ?_
           refine W.seq ?_
           refine sr ?_
           refine oas ?_
           refine nq ?_
           refine W.block ?_
           -- LOOP 2
           refine W.pick (S' := [(22, _), (0, _), (1, _), (2, _), (4, _), (5, _), (6, _), (7, _), (8, _), (9, _), (10, _), (11, _), (12, _), (13, _), (14, _), (16, _), (18, _), (19, _), (20, _), (21, _), (32, _), (59, _), (111, _), (113, _)]) [22, 0, 1, 2, 4, 5, 6, 7, 8, 9, 10, 11, 12, 13, 14, 16, 18, 19, 20, 21, 32, 59, 111, 113] rfl ?_
           refine W.loopG (σ := Nat × PAcc) (fun ⟨q, C⟩ => q ≤ r119.2.length ∧ V3 b25.2.1.p b25.2.2.1.p b25.2.2.2.p l0 (i + 1) r83.a C Z1 r83.m (1 - q) k2 ∧ C.many = Y1.many) (fun ⟨q, C⟩ => [(22, .int .i64 (q : Nat))]) (fun ⟨q, C⟩ => []) [(b11, _), (b9, _), (b8, _), (b41, _), (b7, _), (b38, _), (b25.1.1, _), (b2, _)] (fun ⟨q, C⟩ => stpL b25.1.2 5 l0 r83.m r83.ck ++ (accP r83.a ++ (accP C ++ (accP Z1 ++ ((gLM 138 r119.1 r119.2.length (r119.2.flatMap mlV) 68) ++ (r119.2.flatMap mbL)))))) (fun ⟨q, C⟩ => r119.2.length - q) (0, Y1) rfl cov ⟨Nat.zero_le _, hV, rfl⟩ ?_
           rintro ⟨q, C⟩ ⟨hq, hC, hcm⟩; dsimp only at hq hC hcm ⊢
           refine W.seq ?_
           refine sr ?_
           refine omv ?_
           refine omv ?_
           refine ov vlenS ?_
           refine ov (v2 V_lss) ?_
           refine nq ?_
           refine W.cond_dec rfl (fun g4 => ?_) (fun g4 => ?_)
           · refine W.skip ?_
             refine WQ.then ?_
             refine W.seq ?_
             refine W.block ?_
             refine W.seq ?_
             obtain ⟨gb, gc, grs, hgo, hgc⟩ := gr_open h119.2.2 (by omega)
             obtain ⟨mm, hm⟩ : ∃ m, r119.2[q]? = some m := ⟨_, List.getElem?_eq_getElem (by omega)⟩
             have hid : mm.1.id = C.many := by rw [hcm]; exact (hV.by_.id h119.1 hm).1
             refine W.region ?_
             refine omv ?_
             refine omv ?_
             refine omv ?_
             refine omv ?_
             refine ov (viGM 138 hgo) ?_
             refine ov (vfa 0 1) ?_
             refine ov ((vldMLf q 0 hgo h119.2.2 h119.2.1.1 hm)) ?_
             refine cgP _ rfl (fun w hp => ack20_calls b25.1.2.r b25.1.1 (ps3 b25.2.1.p b25.2.2.1.p b25.2.2.2.p) rfl ((1 : Nat) : Int) C hC.oky (by rw [hC.py]; rfl) mm.1.id w (HP.here hp cov)) (fun r135 h135 => ?_)
             simp only [List.cons_append, List.nil_append, List.append_nil, List.append_assoc]
             refine WL.back (accP r135) ?_
             simp only [List.cons_append, List.nil_append, List.append_nil, List.append_assoc]
             obtain ⟨hN, hak, hmy⟩ := hC.acky (by omega) (Acked.mk' (by rw [hid] at h135; exact h135))
             rw [hid, hak]
             refine ov (v2 V_neq) ?_
             refine nq ?_
             refine W.cond_false rfl (by decide) ?_
             refine W.skip ?_
             refine WQ.block_normal ?_
             refine WQ.then ?_
             refine W.region ?_
             refine omv ?_
             first | refine ov vaddN ?_ | refine ov vadd ?_
             refine oas ?_
             refine WL.nil ?_
             exact ag ((q + 1, r135)) [22, 0, 1, 2, 4, 5, 6, 7, 8, 9, 10, 11, 12, 13, 14, 16, 18, 19, 20, 21, 32, 59, 111, 113] (by (try dsimp only); exact ⟨by omega, by rw [show 1 - (q + 1) = 0 by omega]; exact hN, by omega⟩) (by (try dsimp only); omega) rfl cov
           · refine W.exit ?_
             refine WQ.then_exit ?_
             refine WQ.then_exit ?_
             refine WQ.block_hit ?_
             refine WQ.then ?_
             refine sr ?_
             refine omv ?_
             refine ov (v2 V_neq) ?_
             refine omv ?_
             refine oy rfl (by decide) ?_
             refine omv ?_
             refine oy rfl (by decide) ?_
             refine ov (v2 V_eql) ?_
             refine oy rfl (by decide) ?_
             refine omv ?_
             refine oy rfl rfl ?_
             refine omv ?_
             refine oy rfl rfl ?_
             refine ov vlenS ?_
             refine oy rfl rfl ?_
             refine ov (v2 V_neq) ?_
             refine oy rfl (by decide) ?_
             refine ov (V_pick_t rfl rfl rfl) ?_
             refine ov (V_pick_f rfl (by decide) rfl) ?_
             refine omv ?_
             refine oy rfl (by simp; omega) ?_
             refine omv ?_
             refine oy rfl (by simp; omega) ?_
             refine ov (v2 V_eql) ?_
             refine oy rfl (by simp; omega) ?_
             refine omv ?_
             refine on rfl rfl ?_
             refine on rfl rfl ?_
             refine on rfl rfl ?_
             refine on rfl rfl ?_
             refine on rfl rfl ?_
             refine on rfl rfl ?_
             refine on rfl rfl ?_
             refine on rfl rfl ?_
             refine oy rfl (by simp; omega) ?_
             refine ov (V_pick_f rfl rfl rfl) ?_
             refine ov (V_pick_f rfl (by simp; omega) rfl) ?_
             refine nq ?_
             refine W.cond_false rfl rfl ?_
             refine W.skip ?_
             refine WQ.block_normal ?_
             refine WQ.then ?_
             refine W.region ?_
             refine omv ?_
             first | refine ov vaddN ?_ | refine ov vadd ?_
             refine oas ?_
             refine WL.nil ?_
             exact ag ((1 + 1, C, Z1)) [19, 0, 1, 2, 4, 5, 6, 7, 8, 9, 10, 11, 12, 13, 14, 16, 18, 32, 59, 111] (by (try dsimp only); exact ⟨by omega, by rw [show (2 - (1 + 1)) = 1 - q by omega, show min k2 (3 - (1 + 1)) = k2 by omega]; exact hC⟩) (by (try dsimp only); omega) rfl cov
         · obtain rfl : n1 = 2 := by omega
           rw [show 2 - 2 = 0 from rfl, show min k2 (3 - 2) = k2 by omega] at hV
           refine W.region ?_
           refine omv ?_
           refine omv ?_
           refine cgP _ rfl (fun w hp => mails20_calls b25.1.2.r b25.1.1 (ps3 b25.2.1.p b25.2.2.1.p b25.2.2.2.p) rfl ((2 : Nat) : Int) Z1 hV.okz (by rw [hV.pz]; rfl) w (HP.here hp cov)) (fun r119 h119 => ?_)
           simp only [List.cons_append, List.nil_append, List.append_nil, List.append_assoc]
           refine WL.back (accP Z1) ?_
           simp only [List.cons_append, List.nil_append, List.append_nil, List.append_assoc]
           refine WL.back (gLM 138 r119.1 r119.2.length (r119.2.flatMap mlV) 68) ?_
           simp only [List.cons_append, List.nil_append, List.append_nil, List.append_assoc]
           refine WL.back (r119.2.flatMap mbL) ?_
           simp only [List.cons_append, List.nil_append, List.append_nil, List.append_assoc]
           have hml119 := POK.len h119.1
           rw [absms] at hml119
           rw [hV.bz.len.1] at hml119
           refine omv ?_
           refine ov vex ?_
           refine ov vex ?_
           refine oas ?_
           refine oas ?_
           refine nq ?_
           refine W.seq ?_
           refine sr ?_
           refine oas ?_
           refine nq ?_
           refine W.block ?_
           -- LOOP 3
           refine W.pick (S' := [(22, _), (0, _), (1, _), (2, _), (4, _), (5, _), (6, _), (7, _), (8, _), (9, _), (10, _), (11, _), (12, _), (13, _), (14, _), (16, _), (18, _), (19, _), (20, _), (21, _), (32, _), (59, _), (111, _), (113, _)]) [22, 0, 1, 2, 4, 5, 6, 7, 8, 9, 10, 11, 12, 13, 14, 16, 18, 19, 20, 21, 32, 59, 111, 113] rfl ?_
           refine W.loopG (σ := Nat × PAcc) (fun ⟨q, C⟩ => q ≤ r119.2.length ∧ V3 b25.2.1.p b25.2.2.1.p b25.2.2.2.p l0 (i + 1) r83.a Y1 C r83.m 0 (k2 - q) ∧ C.many = Z1.many) (fun ⟨q, C⟩ => [(22, .int .i64 (q : Nat))]) (fun ⟨q, C⟩ => []) [(b11, _), (b9, _), (b8, _), (b41, _), (b7, _), (b38, _), (b25.1.1, _), (b2, _)] (fun ⟨q, C⟩ => stpL b25.1.2 5 l0 r83.m r83.ck ++ (accP r83.a ++ (accP Y1 ++ (accP C ++ ((gLM 138 r119.1 r119.2.length (r119.2.flatMap mlV) 68) ++ (r119.2.flatMap mbL)))))) (fun ⟨q, C⟩ => r119.2.length - q) (0, Z1) rfl cov ⟨Nat.zero_le _, hV, rfl⟩ ?_
           rintro ⟨q, C⟩ ⟨hq, hC, hcm⟩; dsimp only at hq hC hcm ⊢
           refine W.seq ?_
           refine sr ?_
           refine omv ?_
           refine omv ?_
           refine ov vlenS ?_
           refine ov (v2 V_lss) ?_
           refine nq ?_
           refine W.cond_dec rfl (fun g5 => ?_) (fun g5 => ?_)
           · refine W.skip ?_
             refine WQ.then ?_
             refine W.seq ?_
             refine W.block ?_
             refine W.seq ?_
             obtain ⟨gb, gc, grs, hgo, hgc⟩ := gr_open h119.2.2 (by omega)
             obtain ⟨mm, hm⟩ : ∃ m, r119.2[q]? = some m := ⟨_, List.getElem?_eq_getElem (by omega)⟩
             have hid : mm.1.id = C.many := by rw [hcm]; exact (hV.bz.id h119.1 hm).1
             refine W.region ?_
             refine omv ?_
             refine omv ?_
             refine omv ?_
             refine omv ?_
             refine ov (viGM 138 hgo) ?_
             refine ov (vfa 0 1) ?_
             refine ov ((vldMLf q 0 hgo h119.2.2 h119.2.1.1 hm)) ?_
             refine cgP _ rfl (fun w hp => ack20_calls b25.1.2.r b25.1.1 (ps3 b25.2.1.p b25.2.2.1.p b25.2.2.2.p) rfl ((2 : Nat) : Int) C hC.okz (by rw [hC.pz]; rfl) mm.1.id w (HP.here hp cov)) (fun r135 h135 => ?_)
             simp only [List.cons_append, List.nil_append, List.append_nil, List.append_assoc]
             refine WL.back (accP r135) ?_
             simp only [List.cons_append, List.nil_append, List.append_nil, List.append_assoc]
             obtain ⟨hN, hak, hmy⟩ := hC.ackz (by omega) (Acked.mk' (by rw [hid] at h135; exact h135))
             rw [hid, hak]
             refine ov (v2 V_neq) ?_
             refine nq ?_
             refine W.cond_false rfl (by decide) ?_
             refine W.skip ?_
             refine WQ.block_normal ?_
             refine WQ.then ?_
             refine W.region ?_
             refine omv ?_
             first | refine ov vaddN ?_ | refine ov vadd ?_
             refine oas ?_
             refine WL.nil ?_
             exact ag ((q + 1, r135)) [22, 0, 1, 2, 4, 5, 6, 7, 8, 9, 10, 11, 12, 13, 14, 16, 18, 19, 20, 21, 32, 59, 111, 113] (by (try dsimp only); exact ⟨by omega, by rw [show k2 - (q + 1) = 0 by omega]; exact hN, by omega⟩) (by (try dsimp only); omega) rfl cov
           · refine W.exit ?_
             refine WQ.then_exit ?_
             refine WQ.then_exit ?_
             refine WQ.block_hit ?_
             refine WQ.then ?_
             refine sr ?_
             refine omv ?_
             refine ov (v2 V_neq) ?_
             refine omv ?_
             refine oy rfl (by decide) ?_
             refine omv ?_
             refine oy rfl (by decide) ?_
             refine ov (v2 V_eql) ?_
             refine oy rfl (by decide) ?_
             refine omv ?_
             refine on rfl rfl ?_
             refine on rfl rfl ?_
             refine on rfl rfl ?_
             refine oy rfl (by decide) ?_
             refine ov (V_pick_f rfl rfl rfl) ?_
             refine ov (V_pick_f rfl (by decide) rfl) ?_
             refine omv ?_
             refine oy rfl rfl ?_
             refine omv ?_
             refine oy rfl rfl ?_
             refine ov (v2 V_eql) ?_
             refine oy rfl rfl ?_
             refine omv ?_
             refine oy rfl rfl ?_
             refine omv ?_
             refine oy rfl rfl ?_
             refine ov vlenS ?_
             refine oy rfl rfl ?_
             refine ov (v2 V_eql) ?_
             refine oy rfl rfl ?_
             refine omv ?_
             refine oy rfl rfl ?_
             refine omv ?_
             refine oy rfl rfl ?_
             first | refine ov viS1 ?_ | refine ov viS1Z ?_
             refine oy rfl rfl ?_
             refine ov (vldV _) ?_
             refine oy rfl rfl ?_
             refine ov (V_eqlB (by kernel_rfl) rfl rfl) ?_
             refine oy rfl rfl ?_
             refine ov (V_pick_t rfl rfl rfl) ?_
             refine ov (V_pick_f rfl rfl rfl) ?_
             refine nq ?_
             refine W.cond_false rfl (by rw [hut]; simp; omega) ?_
             refine W.skip ?_
             refine WQ.block_normal ?_
             refine WQ.then ?_
             refine W.region ?_
             refine omv ?_
             first | refine ov vaddN ?_ | refine ov vadd ?_
             refine oas ?_
             refine WL.nil ?_
             exact ag ((2 + 1, Y1, C)) [19, 0, 1, 2, 4, 5, 6, 7, 8, 9, 10, 11, 12, 13, 14, 16, 18, 32, 59, 111] (by (try dsimp only); exact ⟨by omega, by rw [show min k2 (3 - (2 + 1)) = k2 - q by omega]; exact hC⟩) (by (try dsimp only); omega) rfl cov
       · refine W.exit ?_
         refine WQ.then_exit ?_
         refine WQ.then_exit ?_
         refine WQ.block_hit ?_
         refine WQ.block_normal ?_
         refine WQ.then ?_
         refine W.region ?_
         refine omv ?_
         first | refine ov vaddN ?_ | refine ov vadd ?_
         refine oas ?_
         refine WL.nil ?_
         obtain rfl : n1 = 3 := by omega
         exact ag ((i + 1, r83.a, Y1, Z1, r83.m, r83.ck)) [13, 0, 1, 2, 4, 5, 6, 7, 8, 9, 10, 11, 12, 32] (by (try dsimp only); exact ⟨by omega, by rw [show min k2 (3 - 3) = 0 by omega] at hV; exact hV⟩) (by (try dsimp only); omega) rfl cov
     · have huf : u = false := by simpa using hut
       obtain ⟨hk2v, hk74⟩ := hkf huf
       refine W.region ?_
       refine omv ?_
       refine ov (v2 V_neq) ?_
       refine omv ?_
       refine oy rfl (by decide) ?_
       refine omv ?_
       refine oy rfl (by decide) ?_
       refine ov (v2 V_eql) ?_
       refine oy rfl (by decide) ?_
       refine omv ?_
       refine oy rfl (by decide) ?_
       refine omv ?_
       refine oy rfl (by decide) ?_
       first | refine ov viS1 ?_ | refine ov viS1Z ?_
       refine oy rfl (by decide) ?_
       refine ov (vldV _) ?_
       refine oy rfl (by decide) ?_
       refine ov (V_neqB (by kernel_rfl) rfl rfl) ?_
       refine ov (V_pick_f rfl (by decide) rfl) ?_
       refine omv ?_
       refine oy rfl (by simp [hk74, huf]) ?_
       refine omv ?_
       refine oy rfl (by simp [hk74, huf]) ?_
       refine omv ?_
       refine oy rfl (by simp [hk74, huf]) ?_
       first | refine ov viS1 ?_ | refine ov viS1Z ?_
       refine oy rfl (by simp [hk74, huf]) ?_
       refine ov (vldV _) ?_
       refine oy rfl (by simp [hk74, huf]) ?_
       refine ov vnot ?_
       refine oy rfl (by simp [hk74, huf]) ?_
       refine omv ?_
       refine oy rfl (by simp [huf]) ?_
       refine omv ?_
       refine oy rfl (by simp [huf]) ?_
       refine ov (v2 V_neq) ?_
       refine oy rfl (by simp [hk74, huf]) ?_
       refine ov (V_pick_t rfl (by simp [huf]) rfl) ?_
       refine ov (V_pick_f rfl (by simp [hk74, huf]) rfl) ?_
       refine omv ?_
       refine oy rfl (by simp [hk74]) ?_
       refine omv ?_
       refine oy rfl (by simp [hk74]) ?_
       refine ov (v2 V_neq) ?_
       refine ov (V_pick_f rfl (by simp [hk74]) rfl) ?_
       refine nq ?_
       refine W.cond_false rfl (by simp [hk83]) ?_
       refine W.skip ?_
       refine WQ.then ?_
       refine sr ?_
       refine oas ?_
       refine nq ?_
       refine W.block ?_
       -- LOOP 4
       refine W.pick (S' := [(19, _), (0, _), (1, _), (2, _), (4, _), (5, _), (6, _), (7, _), (8, _), (9, _), (10, _), (11, _), (12, _), (13, _), (14, _), (16, _), (18, _), (32, _), (59, _), (111, _)]) [19, 0, 1, 2, 4, 5, 6, 7, 8, 9, 10, 11, 12, 13, 14, 16, 18, 32, 59, 111] rfl ?_
       refine W.loopG (σ := Nat × PAcc × PAcc) (fun ⟨n1, Y1, Z1⟩ => (1 ≤ n1 ∧ n1 ≤ 3) ∧ V3 b25.2.1.p b25.2.2.1.p b25.2.2.2.p l0 (i + 1) r83.a Y1 Z1 r83.m (2 - n1) (min k2 (3 - n1))) (fun ⟨n1, Y1, Z1⟩ => [(19, .int .i64 (n1 : Nat))]) (fun ⟨n1, Y1, Z1⟩ => []) [(b11, _), (b9, _), (b8, _), (b41, _), (b7, _), (b38, _), (b25.1.1, _), (b2, _)] (fun ⟨n1, Y1, Z1⟩ => stpL b25.1.2 5 l0 r83.m r83.ck ++ (accP r83.a ++ (accP Y1 ++ accP Z1))) (fun ⟨n1, Y1, Z1⟩ => 3 - n1) (1, r83.c, r74.c) rfl cov ⟨by omega, by rw [show min k2 (3 - 1) = k2 by omega]; exact hV0⟩ ?_
       rintro ⟨n1, Y1, Z1⟩ ⟨hn1, hV⟩; dsimp only at hn1 hV ⊢
       refine W.seq ?_
       refine sr ?_
       refine omv ?_
       refine ov (v2 V_lss) ?_
       refine nq ?_
       refine W.cond_dec rfl (fun g6 => ?_) (fun g6 => ?_)
       · refine W.skip ?_
         refine WQ.then ?_
         refine W.seq ?_
         refine W.block ?_
         refine W.seq ?_
         by_cases e1 : n1 = 1
         · subst e1
           rw [show 2 - 1 = 1 from rfl, show min k2 (3 - 1) = k2 by omega] at hV
           refine W.region ?_
           refine omv ?_
           refine omv ?_
           refine cgP _ rfl (fun w hp => mails20_calls b25.1.2.r b25.1.1 (ps3 b25.2.1.p b25.2.2.1.p b25.2.2.2.p) rfl ((1 : Nat) : Int) Y1 hV.oky (by rw [hV.py]; rfl) w (HP.here hp cov)) (fun r119 h119 => ?_)
           simp only [List.cons_append, List.nil_append, List.append_nil, List.append_assoc]
           refine WL.back (accP Y1) ?_
           simp only [List.cons_append, List.nil_append, List.append_nil, List.append_assoc]
           refine WL.back (gLM 138 r119.1 r119.2.length (r119.2.flatMap mlV) 68) ?_
           simp only [List.cons_append, List.nil_append, List.append_nil, List.append_assoc]
           refine WL.back (r119.2.flatMap mbL) ?_
           simp only [List.cons_append, List.nil_append, List.append_nil, List.append_assoc]
           have hml119 := POK.len h119.1
           rw [absms] at hml119
           rw [hV.by_.len.1] at hml119
           refine omv ?_
           refine ov vex ?_
           refine ov vex ?_
           refine oas ?_
           refine oas ?_
           refine nq ?_
           refine W.seq ?_
           refine sr ?_
           refine oas ?_
           refine nq ?_
           refine W.block ?_
           -- LOOP 5
           refine W.pick (S' := [(22, _), (0, _), (1, _), (2, _), (4, _), (5, _), (6, _), (7, _), (8, _), (9, _), (10, _), (11, _), (12, _), (13, _), (14, _), (16, _), (18, _), (19, _), (20, _), (21, _), (32, _), (59, _), (111, _), (113, _)]) [22, 0, 1, 2, 4, 5, 6, 7, 8, 9, 10, 11, 12, 13, 14, 16, 18, 19, 20, 21, 32, 59, 111, 113] rfl ?_
           refine W.loopG (σ := Nat × PAcc) (fun ⟨q, C⟩ => q ≤ r119.2.length ∧ V3 b25.2.1.p b25.2.2.1.p b25.2.2.2.p l0 (i + 1) r83.a C Z1 r83.m (1 - q) k2 ∧ C.many = Y1.many) (fun ⟨q, C⟩ => [(22, .int .i64 (q : Nat))]) (fun ⟨q, C⟩ => []) [(b11, _), (b9, _), (b8, _), (b41, _), (b7, _), (b38, _), (b25.1.1, _), (b2, _)] (fun ⟨q, C⟩ => stpL b25.1.2 5 l0 r83.m r83.ck ++ (accP r83.a ++ (accP C ++ (accP Z1 ++ ((gLM 138 r119.1 r119.2.length (r119.2.flatMap mlV) 68) ++ (r119.2.flatMap mbL)))))) (fun ⟨q, C⟩ => r119.2.length - q) (0, Y1) rfl cov ⟨Nat.zero_le _, hV, rfl⟩ ?_
           rintro ⟨q, C⟩ ⟨hq, hC, hcm⟩; dsimp only at hq hC hcm ⊢
           refine W.seq ?_
           refine sr ?_
           refine omv ?_
           refine omv ?_
           refine ov vlenS ?_
           refine ov (v2 V_lss) ?_
           refine nq ?_
           refine W.cond_dec rfl (fun g7 => ?_) (fun g7 => ?_)
           · refine W.skip ?_
             refine WQ.then ?_
             refine W.seq ?_
             refine W.block ?_
             refine W.seq ?_
             obtain ⟨gb, gc, grs, hgo, hgc⟩ := gr_open h119.2.2 (by omega)
             obtain ⟨mm, hm⟩ : ∃ m, r119.2[q]? = some m := ⟨_, List.getElem?_eq_getElem (by omega)⟩
             have hid : mm.1.id = C.many := by rw [hcm]; exact (hV.by_.id h119.1 hm).1
             refine W.region ?_
             refine omv ?_
             refine omv ?_
             refine omv ?_
             refine omv ?_
             refine ov (viGM 138 hgo) ?_
             refine ov (vfa 0 1) ?_
             refine ov ((vldMLf q 0 hgo h119.2.2 h119.2.1.1 hm)) ?_
             refine cgP _ rfl (fun w hp => ack20_calls b25.1.2.r b25.1.1 (ps3 b25.2.1.p b25.2.2.1.p b25.2.2.2.p) rfl ((1 : Nat) : Int) C hC.oky (by rw [hC.py]; rfl) mm.1.id w (HP.here hp cov)) (fun r135 h135 => ?_)
             simp only [List.cons_append, List.nil_append, List.append_nil, List.append_assoc]
             refine WL.back (accP r135) ?_
             simp only [List.cons_append, List.nil_append, List.append_nil, List.append_assoc]
             obtain ⟨hN, hak, hmy⟩ := hC.acky (by omega) (Acked.mk' (by rw [hid] at h135; exact h135))
             rw [hid, hak]
             refine ov (v2 V_neq) ?_
             refine nq ?_
             refine W.cond_false rfl (by decide) ?_
             refine W.skip ?_
             refine WQ.block_normal ?_
             refine WQ.then ?_
             refine W.region ?_
             refine omv ?_
             first | refine ov vaddN ?_ | refine ov vadd ?_
             refine oas ?_
             refine WL.nil ?_
             exact ag ((q + 1, r135)) [22, 0, 1, 2, 4, 5, 6, 7, 8, 9, 10, 11, 12, 13, 14, 16, 18, 19, 20, 21, 32, 59, 111, 113] (by (try dsimp only); exact ⟨by omega, by rw [show 1 - (q + 1) = 0 by omega]; exact hN, by omega⟩) (by (try dsimp only); omega) rfl cov
           · refine W.exit ?_
             refine WQ.then_exit ?_
             refine WQ.then_exit ?_
             refine WQ.block_hit ?_
             refine WQ.then ?_
             refine sr ?_
             refine omv ?_
             refine ov (v2 V_neq) ?_
             refine omv ?_
             refine oy rfl (by decide) ?_
             refine omv ?_
             refine oy rfl (by decide) ?_
             refine ov (v2 V_eql) ?_
             refine oy rfl (by decide) ?_
             refine omv ?_
             refine oy rfl rfl ?_
             refine omv ?_
             refine oy rfl rfl ?_
             refine ov vlenS ?_
             refine oy rfl rfl ?_
             refine ov (v2 V_neq) ?_
             refine oy rfl (by decide) ?_
             refine ov (V_pick_t rfl rfl rfl) ?_
             refine ov (V_pick_f rfl (by decide) rfl) ?_
             refine omv ?_
             refine oy rfl (by simp; omega) ?_
             refine omv ?_
             refine oy rfl (by simp; omega) ?_
             refine ov (v2 V_eql) ?_
             refine oy rfl (by simp; omega) ?_
             refine omv ?_
             refine on rfl rfl ?_
             refine on rfl rfl ?_
             refine on rfl rfl ?_
             refine on rfl rfl ?_
             refine on rfl rfl ?_
             refine on rfl rfl ?_
             refine on rfl rfl ?_
             refine on rfl rfl ?_
             refine oy rfl (by simp; omega) ?_
             refine ov (V_pick_f rfl rfl rfl) ?_
             refine ov (V_pick_f rfl (by simp; omega) rfl) ?_
             refine nq ?_
             refine W.cond_false rfl rfl ?_
             refine W.skip ?_
             refine WQ.block_normal ?_
             refine WQ.then ?_
             refine W.region ?_
             refine omv ?_
             first | refine ov vaddN ?_ | refine ov vadd ?_
             refine oas ?_
             refine WL.nil ?_
             exact ag ((1 + 1, C, Z1)) [19, 0, 1, 2, 4, 5, 6, 7, 8, 9, 10, 11, 12, 13, 14, 16, 18, 32, 59, 111] (by (try dsimp only); exact ⟨by omega, by rw [show (2 - (1 + 1)) = 1 - q by omega, show min k2 (3 - (1 + 1)) = k2 by omega]; exact hC⟩) (by (try dsimp only); omega) rfl cov
         · obtain rfl : n1 = 2 := by omega
           rw [show 2 - 2 = 0 from rfl, show min k2 (3 - 2) = k2 by omega] at hV
           refine W.region ?_
           refine omv ?_
           refine omv ?_
           refine cgP _ rfl (fun w hp => mails20_calls b25.1.2.r b25.1.1 (ps3 b25.2.1.p b25.2.2.1.p b25.2.2.2.p) rfl ((2 : Nat) : Int) Z1 hV.okz (by rw [hV.pz]; rfl) w (HP.here hp cov)) (fun r119 h119 => ?_)
           simp only [List.cons_append, List.nil_append, List.append_nil, List.append_assoc]
           refine WL.back (accP Z1) ?_
           simp only [List.cons_append, List.nil_append, List.append_nil, List.append_assoc]
           refine WL.back (gLM 138 r119.1 r119.2.length (r119.2.flatMap mlV) 68) ?_
           simp only [List.cons_append, List.nil_append, List.append_nil, List.append_assoc]
           refine WL.back (r119.2.flatMap mbL) ?_
           simp only [List.cons_append, List.nil_append, List.append_nil, List.append_assoc]
           have hml119 := POK.len h119.1
           rw [absms] at hml119
           rw [hV.bz.len.1] at hml119
           refine omv ?_
           refine ov vex ?_
           refine ov vex ?_
           refine oas ?_
           refine oas ?_
           refine nq ?_
           refine W.seq ?_
           refine sr ?_
           refine oas ?_
           refine nq ?_
           refine W.block ?_
           -- LOOP 6
           refine W.pick (S' := [(22, _), (0, _), (1, _), (2, _), (4, _), (5, _), (6, _), (7, _), (8, _), (9, _), (10, _), (11, _), (12, _), (13, _), (14, _), (16, _), (18, _), (19, _), (20, _), (21, _), (32, _), (59, _), (111, _), (113, _)]) [22, 0, 1, 2, 4, 5, 6, 7, 8, 9, 10, 11, 12, 13, 14, 16, 18, 19, 20, 21, 32, 59, 111, 113] rfl ?_
           refine W.loopG (σ := Nat × PAcc) (fun ⟨q, C⟩ => q ≤ r119.2.length ∧ V3 b25.2.1.p b25.2.2.1.p b25.2.2.2.p l0 (i + 1) r83.a Y1 C r83.m 0 (k2 - q) ∧ C.many = Z1.many) (fun ⟨q, C⟩ => [(22, .int .i64 (q : Nat))]) (fun ⟨q, C⟩ => []) [(b11, _), (b9, _), (b8, _), (b41, _), (b7, _), (b38, _), (b25.1.1, _), (b2, _)] (fun ⟨q, C⟩ => stpL b25.1.2 5 l0 r83.m r83.ck ++ (accP r83.a ++ (accP Y1 ++ (accP C ++ ((gLM 138 r119.1 r119.2.length (r119.2.flatMap mlV) 68) ++ (r119.2.flatMap mbL)))))) (fun ⟨q, C⟩ => r119.2.length - q) (0, Z1) rfl cov ⟨Nat.zero_le _, hV, rfl⟩ ?_
           rintro ⟨q, C⟩ ⟨hq, hC, hcm⟩; dsimp only at hq hC hcm ⊢
           refine W.seq ?_
           refine sr ?_
           refine omv ?_
           refine omv ?_
           refine ov vlenS ?_
           refine ov (v2 V_lss) ?_
           refine nq ?_
           refine W.cond_dec rfl (fun g8 => ?_) (fun g8 => ?_)
           · refine W.skip ?_
             refine WQ.then ?_
             refine W.seq ?_
             refine W.block ?_
             refine W.seq ?_
             obtain ⟨gb, gc, grs, hgo, hgc⟩ := gr_open h119.2.2 (by omega)
             obtain ⟨mm, hm⟩ : ∃ m, r119.2[q]? = some m := ⟨_, List.getElem?_eq_getElem (by omega)⟩
             have hid : mm.1.id = C.many := by rw [hcm]; exact (hV.bz.id h119.1 hm).1
             refine W.region ?_
             refine omv ?_
             refine omv ?_
             refine omv ?_
             refine omv ?_
             refine ov (viGM 138 hgo) ?_
             refine ov (vfa 0 1) ?_
             refine ov ((vldMLf q 0 hgo h119.2.2 h119.2.1.1 hm)) ?_
             refine cgP _ rfl (fun w hp => ack20_calls b25.1.2.r b25.1.1 (ps3 b25.2.1.p b25.2.2.1.p b25.2.2.2.p) rfl ((2 : Nat) : Int) C hC.okz (by rw [hC.pz]; rfl) mm.1.id w (HP.here hp cov)) (fun r135 h135 => ?_)
             simp only [List.cons_append, List.nil_append, List.append_nil, List.append_assoc]
             refine WL.back (accP r135) ?_
             simp only [List.cons_append, List.nil_append, List.append_nil, List.append_assoc]
             obtain ⟨hN, hak, hmy⟩ := hC.ackz (by omega) (Acked.mk' (by rw [hid] at h135; exact h135))
             rw [hid, hak]
             refine ov (v2 V_neq) ?_
             refine nq ?_
             refine W.cond_false rfl (by decide) ?_
             refine W.skip ?_
             refine WQ.block_normal ?_
             refine WQ.then ?_
             refine W.region ?_
             refine omv ?_
             first | refine ov vaddN ?_ | refine ov vadd ?_
             refine oas ?_
             refine WL.nil ?_
             exact ag ((q + 1, r135)) [22, 0, 1, 2, 4, 5, 6, 7, 8, 9, 10, 11, 12, 13, 14, 16, 18, 19, 20, 21, 32, 59, 111, 113] (by (try dsimp only); exact ⟨by omega, by rw [show k2 - (q + 1) = 0 by omega]; exact hN, by omega⟩) (by (try dsimp only); omega) rfl cov
           · refine W.exit ?_
             refine WQ.then_exit ?_
             refine WQ.then_exit ?_
             refine WQ.block_hit ?_
             refine WQ.then ?_
             refine sr ?_
             refine omv ?_
             refine ov (v2 V_neq) ?_
             refine omv ?_
             refine oy rfl (by decide) ?_
             refine omv ?_
             refine oy rfl (by decide) ?_
             refine ov (v2 V_eql) ?_
             refine oy rfl (by decide) ?_
             refine omv ?_
             refine on rfl rfl ?_
             refine on rfl rfl ?_
             refine on rfl rfl ?_
             refine oy rfl (by decide) ?_
             refine ov (V_pick_f rfl rfl rfl) ?_
             refine ov (V_pick_f rfl (by decide) rfl) ?_
             refine omv ?_
             refine oy rfl rfl ?_
             refine omv ?_
             refine oy rfl rfl ?_
             refine ov (v2 V_eql) ?_
             refine oy rfl rfl ?_
             refine omv ?_
             refine oy rfl rfl ?_
             refine omv ?_
             refine oy rfl rfl ?_
             refine ov vlenS ?_
             refine oy rfl rfl ?_
             refine ov (v2 V_eql) ?_
             refine oy rfl rfl ?_
             refine omv ?_
             refine oy rfl rfl ?_
             refine omv ?_
             refine oy rfl rfl ?_
             first | refine ov viS1 ?_ | refine ov viS1Z ?_
             refine oy rfl rfl ?_
             refine ov (vldV _) ?_
             refine oy rfl rfl ?_
             refine ov (V_eqlB (by kernel_rfl) rfl rfl) ?_
             refine oy rfl rfl ?_
             refine ov (V_pick_t rfl rfl rfl) ?_
             refine ov (V_pick_f rfl rfl rfl) ?_
             refine nq ?_
             refine W.cond_false rfl (by rw [huf]; simp; omega) ?_
             refine W.skip ?_
             refine WQ.block_normal ?_
             refine WQ.then ?_
             refine W.region ?_
             refine omv ?_
             first | refine ov vaddN ?_ | refine ov vadd ?_
             refine oas ?_
             refine WL.nil ?_
             exact ag ((2 + 1, Y1, C)) [19, 0, 1, 2, 4, 5, 6, 7, 8, 9, 10, 11, 12, 13, 14, 16, 18, 32, 59, 111] (by (try dsimp only); exact ⟨by omega, by rw [show min k2 (3 - (2 + 1)) = k2 - q by omega]; exact hC⟩) (by (try dsimp only); omega) rfl cov
       · refine W.exit ?_
         refine WQ.then_exit ?_
         refine WQ.then_exit ?_
         refine WQ.block_hit ?_
         refine WQ.block_normal ?_
         refine WQ.then ?_
         refine W.region ?_
         refine omv ?_
         first | refine ov vaddN ?_ | refine ov vadd ?_
         refine oas ?_
         refine WL.nil ?_
         obtain rfl : n1 = 3 := by omega
         exact ag ((i + 1, r83.a, Y1, Z1, r83.m, r83.ck)) [13, 0, 1, 2, 4, 5, 6, 7, 8, 9, 10, 11, 12, 32] (by (try dsimp only); exact ⟨by omega, by rw [show min k2 (3 - 3) = 0 by omega] at hV; exact hV⟩) (by (try dsimp only); omega) rfl cov
   · refine W.exit ?_
     refine WQ.then_exit ?_
     refine WQ.then_exit ?_
     refine WQ.block_hit ?_
     refine WQ.then ?_
     refine sr ?_
     refine omv ?_
     refine omv ?_
     refine oy rfl rfl ?_
     refine omv ?_
     refine oy rfl rfl ?_
     refine ov (v2 V_eql) ?_
     refine ov (V_pick_t rfl rfl rfl) ?_
     refine omv ?_
     refine oy rfl rfl ?_
     refine omv ?_
     refine oy rfl rfl ?_
     refine ov (v2 V_eql) ?_
     refine ov (V_pick_t rfl rfl rfl) ?_
     refine oas ?_
     refine nq ?_
     refine W.ret ?_
     refine WQ.ret1 Try.results8 (.tmp rfl) ?_
     intro w' hp; exact ⟨by first | rfl | (simp; done) | (simp [*]; done) | simp_all, hp.forget⟩

end Go.Proofs.Ytmeckbjinmgbbaa