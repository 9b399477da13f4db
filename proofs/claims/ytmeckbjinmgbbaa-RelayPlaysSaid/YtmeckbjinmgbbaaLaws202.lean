/- The statements of layer 20: an envelope waits. -/
import Derived.Test.YtmeckbjinmgbbaaSnd
set_option linter.unusedVariables false
set_option linter.unusedSimpArgs false

namespace Go.Proofs.Ytmeckbjinmgbbaa
open Go.X

theorem awake20_calls (w : World) : Calls Try.prog 11 ([] : List Value).toArray w fun e w' => e = .returned (.bool true) ∧ HP w w' [] [] := by
 have hkb : bytes ([1] ++ List.replicate (32 - 1) 0) := fun c hc => by simp at hc; omega
 refine calls_of_W Try.func11 rfl Try.ntmps11 rfl rfl (HP.refl w []) ?_
 refine sr ?_
 refine oas ?_
 refine nx ?_
 refine ov (vbI 32 .u8 1 [1]) ?_
 refine cg rfl (fun w hp => begun20_calls ([1] ++ List.replicate (32 - 1) 0) rfl w) (fun b12 h12 => ?_)
 refine oas ?_
 refine nq ?_
 refine W.seq ?_
 refine sr ?_
 refine omv ?_
 refine ov (V_eqlP (by kernel_rfl) rfl rfl) ?_
 refine nq ?_
 refine W.cond_false rfl rfl ?_
 refine W.skip ?_
 refine WQ.then ?_
 refine sr ?_
 refine obsI (k := .u8) 5 1 [120] (fun b15 => ?_)
 refine oro ?_
 refine ov (V_build (by kernel_rfl) (zi (zs := [(1, [.int .i64 0]), (1, [.int .i64 0]), (32, List.replicate 32 (.int .u8 0)), (32, List.replicate 32 (.int .u8 0)), (1, [.int .i64 0]), (1, [.int .i64 0]), (1, [.slice none 0 0])])) (.one (k := 0) rfl rfl (by kernel_rfl) rfl (.one (k := 1) rfl rfl (by kernel_rfl) rfl (.one (k := 68) rfl rfl (by kernel_rfl) rfl (.nil _))))) ?_
 refine oal [(1, [.int .i64 0]), (1, [.int .i64 0]), (32, List.replicate 32 (.int .u8 0)), (32, List.replicate 32 (.int .u8 0)), (1, [.int .i64 0]), (1, [.int .i64 0]), (1, [.slice none 0 0])] (fun b2 => ?_)
 refine osta 69 ?_
 refine nq ?_
 refine W.seq ?_
 have hve := vE_ok (f := 1) (t := 2) (x := 120) (A := (some ⟨b15, 0, none⟩)) (by decide)
 have hvh := vE_he (f := 1) (t := 2) (A := (some ⟨b15, 0, none⟩)) (by decide) (by decide)
 apply W.j1
 · intro hJ
   refine dr (.q 1 (.l2 0 (.l2 2 (.q 3 (.q 4 (.q 5 (.l 6 (.l 7 (.q 8 (.done))))))) 6 (.l 2 (.q 3 (.q 4 (.q 5 (.l 7 (.q 8 (.done)))))))) 6 (.l 0 (.l 2 (.q 3 (.q 4 (.q 5 (.l 7 (.q 8 (.done)))))))))) [(b2, _)] ?_
   refine dq rfl (vlda 69) ?_
   refine WD.l2 ?_ ?_
   · refine dcp rfl rfl (fun w hp => link20_calls 1 w) ?_
     refine WD.l2 ?_ ?_
     · refine dcp rfl rfl (fun w hp => tag20_calls (lnk 1) lnk_len lnk_bytes (vE 1 2 (some ⟨b15, 0, none⟩)) (some ⟨b15, 0, none⟩) 1 1 [120] hve hvh w sw) ?_
       refine dq rfl (V_move rfl) ?_
       refine dq rfl vex ?_
       refine dq rfl vex ?_
       refine WD.l ?_
       refine dal rfl [(32, List.replicate 32 (.int .u8 0))] (fun b3 => ?_)
       refine WD.l ?_
       refine dsta rfl 32 ?_
       refine dq rfl (V_assign rfl) ?_
       refine WD.done ?_
       exact WQ.pick (S' := [(0, _), (1, _), (2, _), (3, _), (4, _), (14, _)]) [0, 1, 2, 3, 4, 14] rfl (hJ b3)
     · refine dal rfl [(32, List.replicate 32 (.int .u8 0))] (fun b3 => ?_)
       refine WD.l ?_
       refine dcp rfl rfl (fun w hp => tag20_calls (lnk 1) lnk_len lnk_bytes (vE 1 2 (some ⟨b15, 0, none⟩)) (some ⟨b15, 0, none⟩) 1 1 [120] hve hvh w sw) ?_
       refine dq rfl (V_move rfl) ?_
       refine dq rfl vex ?_
       refine dq rfl vex ?_
       refine WD.l ?_
       refine dsta rfl 32 ?_
       refine dq rfl (V_assign rfl) ?_
       refine WD.done ?_
       exact WQ.pick (S' := [(0, _), (1, _), (2, _), (3, _), (4, _), (14, _)]) [0, 1, 2, 3, 4, 14] rfl (hJ b3)
   · refine dal rfl [(32, List.replicate 32 (.int .u8 0))] (fun b3 => ?_)
     refine WD.l ?_
     refine dcp rfl rfl (fun w hp => link20_calls 1 w) ?_
     refine WD.l ?_
     refine dcp rfl rfl (fun w hp => tag20_calls (lnk 1) lnk_len lnk_bytes (vE 1 2 (some ⟨b15, 0, none⟩)) (some ⟨b15, 0, none⟩) 1 1 [120] hve hvh w sw) ?_
     refine dq rfl (V_move rfl) ?_
     refine dq rfl vex ?_
     refine dq rfl vex ?_
     refine WD.l ?_
     refine dsta rfl 32 ?_
     refine dq rfl (V_assign rfl) ?_
     refine WD.done ?_
     exact WQ.pick (S' := [(0, _), (1, _), (2, _), (3, _), (4, _), (14, _)]) [0, 1, 2, 3, 4, 14] rfl (hJ b3)
 intro b3
 refine WQ.then ?_
 refine sr ?_
 refine omv ?_
 refine ov (vlda 69) ?_
 refine ov (vlda 32) ?_
 refine cgP _ rfl (fun w hp => snd20_calls b12.1.1 b12.1.2 5 ([1] ++ List.replicate (32 - 1) 0) (by decide) rfl hkb (ps3 b12.2.1.p b12.2.2.1.p b12.2.2.2.p) rfl [] 0 Good.nil (vE 1 2 (some ⟨b15, 0, none⟩)) (some ⟨b15, 0, none⟩) 1 1 [120] hve hvh (tgL (lnk 1) (vE 1 2 (some ⟨b15, 0, none⟩)) [120]) tgL_len tgL_bytes 7 (by show ¬ ((1 : Int) = 2 ∨ (7 : Int) < 0 ∨ (1000000 : Int) < 7); decide) b12.2.2.1 b12.2.2.2 h12.2.1.1 h12.2.2.1 rfl rfl (by rw [h12.z.2.2]; decide) w (HP.here hp cov) (fun w1 M h1 => Sr.pastP hp h1 (hs := by exact Sr.ownR (by repeat (first | exact At.headR | apply At.tail)) iv_one))) (fun r28 h28 => ?_)
 simp only [List.cons_append, List.nil_append, List.append_nil, List.append_assoc]
 refine WL.back (stpL b12.1.2 5 ([1] ++ List.replicate (32 - 1) 0) r28.m r28.ck) ?_
 simp only [List.cons_append, List.nil_append, List.append_nil, List.append_assoc]
 refine WL.back (accP r28.a) ?_
 simp only [List.cons_append, List.nil_append, List.append_nil, List.append_assoc]
 refine WL.back (accP r28.c) ?_
 simp only [List.cons_append, List.nil_append, List.append_nil, List.append_assoc]
 have hsc28 := h28.sc
 have hst28 := h28.st
 unfold stV
 have hx1 : b12.2.2.1.abs = nwA 1 := h12.2.1.2
 have hx2 : b12.2.2.2.abs = nwA 2 := h12.2.2.2
 obtain ⟨hk28, hs28, ha28, hc28⟩ := h28.ok (by rw [hx1]; rfl) (by rw [hx1]; rfl) (by rw [hx2]; decide) (by rw [hx1]; exact tk0 (by decide))
 rw [hx2] at hc28
 rw [hx1] at ha28
 have hm28 : r28.c.many = 1 := congrArg AAcc.many hc28
 have ht28 : r28.s.time = 7 := by rw [hs28, stampF_yes (mayB_of hvh (by decide))]
 refine omv ?_
 refine ov vex ?_
 refine ov vex ?_
 refine oal [(1, [.int .i64 0]), (1, [.int .i64 0]), (1, [.int .i64 0]), (1, [.int .i64 0]), (32, List.replicate 32 (.int .u8 0)), (32, List.replicate 32 (.int .u8 0))] (fun b5 => ?_)
 refine osta 68 ?_
 refine oas ?_
 refine nx ?_
 refine omv ?_
 refine cgP _ rfl (fun w hp => mails20_calls b12.1.2.r b12.1.1 (ps3 b12.2.1.p b12.2.2.1.p b12.2.2.2.p) rfl 2 r28.c h28.okc (by rw [h28.pc]; rfl) w (HP.here hp cov)) (fun r33 h33 => ?_)
 simp only [List.cons_append, List.nil_append, List.append_nil, List.append_assoc]
 refine WL.back (accP r28.c) ?_
 simp only [List.cons_append, List.nil_append, List.append_nil, List.append_assoc]
 refine WL.back (gLM 138 r33.1 r33.2.length (r33.2.flatMap mlV) 68) ?_
 simp only [List.cons_append, List.nil_append, List.append_nil, List.append_assoc]
 refine WL.back (r33.2.flatMap mbL) ?_
 simp only [List.cons_append, List.nil_append, List.append_nil, List.append_assoc]
 have hml33 := POK.len h33.1
 have hl33 : r33.2.length = 1 := by rw [hml33, hc28]; rfl
 refine omv ?_
 refine ov vex ?_
 refine ov vex ?_
 refine oas ?_
 refine oas ?_
 refine nx ?_
 refine omv ?_
 refine ov (vlda 69) ?_
 refine ov (vbI 32 .u8 0 []) ?_
 refine cgP _ rfl (fun w hp => snd20_calls b12.1.1 b12.1.2 5 ([1] ++ List.replicate (32 - 1) 0) (by decide) rfl hkb (ps3 b12.2.1.p b12.2.2.1.p b12.2.2.2.p) rfl r28.m r28.ck h28.g (vE 1 2 (some ⟨b15, 0, none⟩)) (some ⟨b15, 0, none⟩) 1 1 [120] hve hvh (List.replicate 32 0) rfl zbytes 7 (by show ¬ ((1 : Int) = 2 ∨ (7 : Int) < 0 ∨ (1000000 : Int) < 7); decide) r28.a r28.c h28.oka h28.okc (by rw [h28.pa]; rfl) (by rw [h28.pc]; rfl) (by rw [hm28]; decide) w (HP.here hp cov) (fun w1 M h1 => Sr.pastP hp h1 (hs := by exact Sr.ownR (by repeat (first | exact At.headR | apply At.tail)) iv_one))) (fun r40 h40 => ?_)
 simp only [List.cons_append, List.nil_append, List.append_nil, List.append_assoc]
 refine WL.back (stpL b12.1.2 5 ([1] ++ List.replicate (32 - 1) 0) r40.m r40.ck) ?_
 simp only [List.cons_append, List.nil_append, List.append_nil, List.append_assoc]
 refine WL.back (accP r40.a) ?_
 simp only [List.cons_append, List.nil_append, List.append_nil, List.append_assoc]
 refine WL.back (accP r40.c) ?_
 simp only [List.cons_append, List.nil_append, List.append_nil, List.append_assoc]
 have hsc40 := h40.sc
 have hst40 := h40.st
 unfold stV
 have hk40 := (h40.mac (by rw [ha28]; exact tag_off)).1
 refine omv ?_
 refine ov vex ?_
 refine ov vex ?_
 refine oal [(1, [.int .i64 0]), (1, [.int .i64 0]), (1, [.int .i64 0]), (1, [.int .i64 0]), (32, List.replicate 32 (.int .u8 0)), (32, List.replicate 32 (.int .u8 0))] (fun b9 => ?_)
 refine osta 68 ?_
 refine oas ?_
 refine nx ?_
 refine omv ?_
 refine ov (v2 V_eql) ?_
 refine omv ?_
 refine oy rfl rfl ?_
 refine omv ?_
 refine oy rfl rfl ?_
 refine ov (v2 V_eql) ?_
 refine ov (V_pick_t rfl rfl rfl) ?_
 refine omv ?_
 refine oy rfl (decide_eq_true hk28) ?_
 refine ov (vfa0 3 1) ?_
 refine oy rfl (decide_eq_true hk28) ?_
 refine ov vld ?_
 refine oy rfl (decide_eq_true hk28) ?_
 refine ov (v2 V_eql) ?_
 refine ov (V_pick_t rfl (decide_eq_true hk28) rfl) ?_
 refine omv ?_
 refine oy rfl (decide_eq_true ht28) ?_
 refine omv ?_
 refine oy rfl (decide_eq_true ht28) ?_
 refine ov (v2 V_eql) ?_
 refine ov (V_pick_t rfl (decide_eq_true ht28) rfl) ?_
 refine omv ?_
 refine oy rfl rfl ?_
 refine omv ?_
 refine oy rfl rfl ?_
 refine ov vlenS ?_
 refine oy rfl rfl ?_
 refine ov (v2 V_eql) ?_
 refine ov (V_pick_t rfl rfl rfl) ?_
 refine omv ?_
 refine oy rfl (decide_eq_true (by omega)) ?_
 refine omv ?_
 refine oy rfl (decide_eq_true (by omega)) ?_
 refine ov (v2 V_eql) ?_
 refine ov (V_pick_t rfl (decide_eq_true (by omega)) rfl) ?_
 refine oas ?_
 refine nq ?_
 refine W.ret ?_
 refine WQ.ret1 Try.results11 (.tmp rfl) ?_
 intro w' hp; exact ⟨by rw [hk40]; rfl, hp.forget⟩

end Go.Proofs.Ytmeckbjinmgbbaa