/- RelaySends: its walk. -/
import Derived.Test.YtmeckbjinmgbbaaSendsP
set_option linter.unusedVariables false
set_option linter.unusedSimpArgs false

namespace Go.Proofs.Ytmeckbjinmgbbaa
open Go.X

set_option maxRecDepth 8000 in
set_option maxHeartbeats 4000000 in
theorem relaySends_calls (l0 : List Int) (e0 : l0.length = 32) (hb0 : bytes l0) (A : Option Addr) (n cap : Nat) (l : List OpR) (w0 : World) (hs : SrW w0 106 A n (l.flatMap OpR.c)) (hl : l.length = n) (hok : ∀ o ∈ l, o.OK w0) (hn2 : n ≤ 9223372036854775807) :
    Calls Try.prog 6 [AG [(32, iv .u8 l0)], .slice A n cap].toArray w0 fun e w' => e = .returned (.bool true) ∧ HP w0 w' [] [] := by
 refine calls_of_W Try.func6 rfl Try.ntmps6 rfl rfl (HP.refl w0 []) ?_
 refine sr ?_
 refine obxa (fun b2 => ?_)
 refine oas ?_
 refine nx ?_
 refine cp rfl (fun w hp => awake20_calls w) ?_
 refine oas ?_
 refine nx ?_
 refine ov (vlda 32) ?_
 refine cg rfl (fun w hp => begun20_calls l0 e0 w) (fun b25 h25 => ?_)
 refine oas ?_
 refine nq ?_
 refine W.seq ?_
 simp only [List.cons_append, List.nil_append, List.append_nil, List.append_assoc]
 refine W.back (stpL b25.1.2 5 l0 [] 0) ?_
 simp only [List.cons_append, List.nil_append, List.append_nil, List.append_assoc]
 refine W.back (accP b25.2.1) ?_
 simp only [List.cons_append, List.nil_append, List.append_nil, List.append_assoc]
 refine W.back (accP b25.2.2.1) ?_
 simp only [List.cons_append, List.nil_append, List.append_nil, List.append_assoc]
 refine W.back (accP b25.2.2.2) ?_
 simp only [List.cons_append, List.nil_append, List.append_nil, List.append_assoc]
 refine W.region ?_
 refine ov (vlda 32) ?_
 refine cg rfl (fun w hp => new16_calls l0 5 e0 (by decide) w) (fun b28 h28 => ?_)
 refine omv ?_
 refine ov vex ?_
 refine ov vex ?_
 refine oas ?_
 refine oas ?_
 refine nq ?_
 refine W.seq ?_
 refine sr ?_
 refine omv ?_
 refine ov (V_eqlP (by kernel_rfl) rfl rfl) ?_
 refine omv ?_
 refine oy rfl rfl ?_
 refine omv ?_
 refine oy rfl rfl ?_
 refine ov (V_eqlP (by kernel_rfl) rfl rfl) ?_
 refine ov (V_pick_f rfl rfl rfl) ?_
 refine omv ?_
 refine oy rfl rfl ?_
 refine omv ?_
 refine oy rfl rfl ?_
 refine ov vlenS ?_
 refine oy rfl rfl ?_
 refine ov (v2 V_gtr) ?_
 refine ov (V_pick_f rfl rfl rfl) ?_
 refine nq ?_
 refine W.cond_dec rfl (fun g1 => ?_) (fun g1 => ?_)
 · refine W.seq ?_
   refine W.region ?_
   refine omv ?_
   refine omv ?_
   refine oy rfl rfl ?_
   refine omv ?_
   refine oy rfl rfl ?_
   refine ov (V_neqP (by kernel_rfl) rfl rfl) ?_
   refine ov (V_pick_t rfl rfl rfl) ?_
   refine omv ?_
   refine oy rfl rfl ?_
   refine omv ?_
   refine oy rfl rfl ?_
   refine ov (V_neqP (by kernel_rfl) rfl rfl) ?_
   refine ov (V_pick_t rfl rfl rfl) ?_
   refine oas ?_
   refine nq ?_
   refine W.ret ?_
   refine WQ.then_ret ?_
   refine WQ.ret1 Try.results6 (.tmp rfl) ?_
   intro w' hp; exact ⟨rfl, hp.forget⟩
 · refine W.skip ?_
   refine WQ.then ?_
   refine sr ?_
   refine oas ?_
   refine nx ?_
   refine oas ?_
   refine nq ?_
   refine W.seq ?_
   refine sr ?_
   refine oas ?_
   refine nq ?_
   refine W.block ?_
   -- LOOP 0
   refine W.pick (S' := [(9, _), (10, _), (11, _), (0, _), (1, _), (2, _), (4, _), (5, _), (6, _), (7, _), (41, _)]) [9, 10, 11, 0, 1, 2, 4, 5, 6, 7, 41] rfl ?_
   refine W.loopG (σ := Nat × Int × PAcc × PAcc × List Ent × Nat × List Ent × Nat × Gr × List OpR) (fun ⟨i, tn, y, z, m, ck, m2, ck2, o, ws⟩ => i ≤ n ∧ (0 ≤ tn ∧ tn ≤ 7 * i) ∧ S3 b25.2.2.1.p b25.2.2.2.p l0 w0 i y z m ws ∧ Good l0 m2 ∧ GrOK o ws.length) (fun ⟨i, tn, y, z, m, ck, m2, ck2, o, ws⟩ => [(9, .slice (gA o) ws.length (gC o)), (10, .int .i64 tn), (11, .int .i64 (i : Nat))]) (fun ⟨i, tn, y, z, m, ck, m2, ck2, o, ws⟩ => [(b28.m, .obj (mapO .i64 m2 ck2))]) [(b28.r, _), (b28.v, _), (b28.k, _), (b25.1.1, _), (b2, _)] (fun ⟨i, tn, y, z, m, ck, m2, ck2, o, ws⟩ => stpL b25.1.2 5 l0 m ck ++ (accP b25.2.1 ++ (accP y ++ (accP z ++ (gLM 69 o ws.length (ws.flatMap wV) 33))))) (fun ⟨i, tn, y, z, m, ck, m2, ck2, o, ws⟩ => n - i) (0, 0, b25.2.2.1, b25.2.2.2, [], 0, [], 0, none, []) rfl cov ⟨Nat.zero_le _, by omega, S3.nil h25.2.1 h25.2.2 rfl rfl, Good.nil, rfl⟩ ?_
   rintro ⟨i, tn, y, z, m, ck, m2, ck2, o, ws⟩ ⟨hi, htn, hS, hg2, hgo0⟩; dsimp only at hi htn hS hg2 hgo0 ⊢
   refine W.seq ?_
   refine sr ?_
   refine omv ?_
   refine omv ?_
   refine ov vlenS ?_
   refine ov (v2 V_lss) ?_
   refine nq ?_
   refine W.cond_dec rfl (fun g2 => ?_) (fun g2 => ?_)
   · refine W.skip ?_
     refine WQ.then ?_
     refine W.seq ?_
     refine W.block ?_
     refine W.seq ?_
     obtain ⟨bA, oA, rfl⟩ := hs.one'.hasN (by omega)
     obtain ⟨oo, hoi⟩ : ∃ o, l[i]? = some o := ⟨_, List.getElem?_eq_getElem (by omega)⟩
     have ho := hok oo (List.mem_of_getElem? hoi)
     have hos := ho.s
     have hwe := wE_ok ho
     have hec := ho.e.c
     have hep := ho.e.p
     refine W.region ?_
     refine omv ?_
     refine omv ?_
     refine ov (viO 106) ?_
     refine ov (vfa 4 69) ?_
     refine ov (vldOPs' (ds := eSeg oo) 106 i 4 69 (fun x hx => (hok x hx).len) (fun w hp => hs.old0 w hp) hoi ho.ePart) ?_
     unfold eSeg
     refine oal [(1, [.int .i64 0]), (1, [.int .i64 0]), (32, List.replicate 32 (.int .u8 0)), (32, List.replicate 32 (.int .u8 0)), (1, [.int .i64 0]), (1, [.int .i64 0]), (1, [.slice none 0 0])] (fun b12 => ?_)
     refine osta 69 ?_
     refine nx ?_
     refine ov (vfa0 0 1) ?_
     refine ost ?_
     refine nx ?_
     refine ov (vfa0 1 1) ?_
     refine ost ?_
     refine nq ?_
     refine W.seq ?_
     by_cases hh : heB (wE oo) oo.n = true
     · apply W.j1
       · intro hJ
         refine dr (.q 1 (.l2 0 (.l2 2 (.q 3 (.q 4 (.q 5 (.l 6 (.l 7 (.q 8 (.done))))))) 6 (.l 2 (.q 3 (.q 4 (.q 5 (.l 7 (.q 8 (.done)))))))) 6 (.l 0 (.l 2 (.q 3 (.q 4 (.q 5 (.l 7 (.q 8 (.done)))))))))) [(b12, _)] ?_
         refine dq rfl (vlda 69) ?_
         refine WD.l2 ?_ ?_
         · refine dcp rfl rfl (fun w hp => link20_calls 1 w) ?_
           refine WD.l2 ?_ ?_
           · refine dcp rfl rfl (fun w hp => tag20_calls (lnk 1) lnk_len lnk_bytes (wE oo) oo.A oo.n oo.cap oo.b hwe hh w (hos.old0 w hp)) ?_
             refine dq rfl (V_move rfl) ?_
             refine dq rfl vex ?_
             refine dq rfl vex ?_
             refine WD.l ?_
             refine dal rfl [(32, List.replicate 32 (.int .u8 0))] (fun b13 => ?_)
             refine WD.l ?_
             refine dsta rfl 32 ?_
             refine dq rfl (V_assign rfl) ?_
             refine WD.done ?_
             exact WQ.pick (S' := [(0, _), (1, _), (2, _), (4, _), (5, _), (6, _), (7, _), (9, _), (10, _), (11, _), (12, _), (13, _), (14, _), (41, _), (54, _)]) [0, 1, 2, 4, 5, 6, 7, 9, 10, 11, 12, 13, 14, 41, 54] rfl (hJ b13)
           · refine dal rfl [(32, List.replicate 32 (.int .u8 0))] (fun b13 => ?_)
             refine WD.l ?_
             refine dcp rfl rfl (fun w hp => tag20_calls (lnk 1) lnk_len lnk_bytes (wE oo) oo.A oo.n oo.cap oo.b hwe hh w (hos.old0 w hp)) ?_
             refine dq rfl (V_move rfl) ?_
             refine dq rfl vex ?_
             refine dq rfl vex ?_
             refine WD.l ?_
             refine dsta rfl 32 ?_
             refine dq rfl (V_assign rfl) ?_
             refine WD.done ?_
             exact WQ.pick (S' := [(0, _), (1, _), (2, _), (4, _), (5, _), (6, _), (7, _), (9, _), (10, _), (11, _), (12, _), (13, _), (14, _), (41, _), (54, _)]) [0, 1, 2, 4, 5, 6, 7, 9, 10, 11, 12, 13, 14, 41, 54] rfl (hJ b13)
         · refine dal rfl [(32, List.replicate 32 (.int .u8 0))] (fun b13 => ?_)
           refine WD.l ?_
           refine dcp rfl rfl (fun w hp => link20_calls 1 w) ?_
           refine WD.l ?_
           refine dcp rfl rfl (fun w hp => tag20_calls (lnk 1) lnk_len lnk_bytes (wE oo) oo.A oo.n oo.cap oo.b hwe hh w (hos.old0 w hp)) ?_
           refine dq rfl (V_move rfl) ?_
           refine dq rfl vex ?_
           refine dq rfl vex ?_
           refine WD.l ?_
           refine dsta rfl 32 ?_
           refine dq rfl (V_assign rfl) ?_
           refine WD.done ?_
           exact WQ.pick (S' := [(0, _), (1, _), (2, _), (4, _), (5, _), (6, _), (7, _), (9, _), (10, _), (11, _), (12, _), (13, _), (14, _), (41, _), (54, _)]) [0, 1, 2, 4, 5, 6, 7, 9, 10, 11, 12, 13, 14, 41, 54] rfl (hJ b13)
       intro b13
       refine WQ.then ?_
       refine W.seq ?_
       refine sr ?_
       refine omv ?_
       refine ov (v2 V_neq) ?_
       refine nq ?_
       refine W.cond_false rfl (by decide) ?_
       refine W.skip ?_
       refine WQ.then ?_
       refine W.seq ?_
       have h7 : 0 ≤ andI .i64 oo.now 7 ∧ andI .i64 oo.now 7 ≤ 7 := andI_bd (m := 7) (by decide)
       refine W.region ?_
       refine omv ?_
       refine omv ?_
       refine omv ?_
       refine ov (viO 106) ?_
       refine ov (vfa 3 1) ?_
       refine ov (vldOs' 106 i 3 (fun x hx => (hok x hx).len) (fun w hp => hs.old0 w hp) hoi) ?_
       refine ov (v2 V_and) ?_
       first | refine ov vaddN ?_ | refine ov vadd ?_
       refine oas ?_
       refine nq ?_
       refine W.seq ?_
       obtain ⟨tn2, htn2⟩ : ∃ x, x = tn + andI .i64 oo.now 7 := ⟨_, rfl⟩
       rw [← htn2]
       refine W.region ?_
       refine omv ?_
       refine omv ?_
       refine ov (viO 106) ?_
       refine ov (vfa 0 1) ?_
       refine ov (vldOs' 106 i 0 (fun x hx => (hok x hx).len) (fun w hp => hs.old0 w hp) hoi) ?_
       refine ov (v2 V_eql) ?_
       refine oas ?_
       refine nx ?_
       refine omv ?_
       refine omv ?_
       refine cgP _ rfl (fun w hp => sus20_calls b25.1.2.r b25.1.1 (ps3 b25.2.1.p b25.2.2.1.p b25.2.2.2.p) rfl 1 y hS.j.oka (by rw [hS.j.pa]; rfl) (decide (oo.do_ = 3)) w (HP.here hp cov)) (fun r89 h89 => ?_)
       simp only [List.cons_append, List.nil_append, List.append_nil, List.append_assoc]
       refine WL.back (accP r89) ?_
       simp only [List.cons_append, List.nil_append, List.append_nil, List.append_assoc]
       obtain ⟨hS1, hsu⟩ := hS.sus h89
       refine nq ?_
       refine W.seqJ (σ := List Int) (K := [(0, _), (1, _), (2, _), (4, _), (5, _), (6, _), (7, _), (9, _), (10, _), (11, _), (12, _), (13, _), (14, _), (15, _), (41, _), (54, _), (71, _)]) [0, 1, 2, 4, 5, 6, 7, 9, 10, 11, 12, 13, 14, 15, 41, 54, 71] rfl (fun T => T.length = 32 ∧ bytes T ∧ (oo.do_ = 4 → (tgL (lnk 1) (wE oo) oo.b) ≠ T)) (fun T => []) (fun T => [(b25.1.1, .cells (relS b25.1.2.r (ps3 b25.2.1.p b25.2.2.1.p b25.2.2.2.p)) 110), (b2, .cells [(32, iv .u8 l0)] 23), (b12, .cells (enV (wE oo)) 33), (b13, .cells [(32, iv .u8 T)] 23), (b28.r, .cells [(1, [.int .i64 5]), (1, [.map (some b28.m)]), (1, [.func (.func 49) #[] #[.pointer (some ⟨b28.v, 0, none⟩), .pointer (some ⟨b28.k, 0, none⟩)]])] 119), (b28.v, .cells [(1, [.pointer (some ⟨b28.r, 0, none⟩)])] 58), (b28.k, .cells [(32, iv .u8 l0)] 23), (b28.m, .obj (mapO .i64 m2 ck2))]) [] (fun T => stpL b25.1.2 5 l0 m ck ++ (accP b25.2.1 ++ (accP r89 ++ (accP z ++ (gLM 69 o ws.length (ws.flatMap wV) 33))))) ?_ ?_
       · refine W.seq ?_
         refine W.region ?_
         refine omv ?_
         refine omv ?_
         refine ov (viO 106) ?_
         refine ov (vfa 0 1) ?_
         refine ov (vldOs' 106 i 0 (fun x hx => (hok x hx).len) (fun w hp => hs.old0 w hp) hoi) ?_
         refine ov (v2 V_eql) ?_
         refine nq ?_
         refine W.cond_dec rfl (fun g3 => ?_) (fun g3 => ?_)
         · have h31 : 0 ≤ andI .i64 oo.id 31 ∧ andI .i64 oo.id 31 ≤ 31 := andI_bd (m := 31) (by decide)
           refine W.region ?_
           refine omv ?_
           refine omv ?_
           refine ov (viO 106) ?_
           refine ov (vfa 2 1) ?_
           refine ov (vldOs' 106 i 2 (fun x hx => (hok x hx).len) (fun w hp => hs.old0 w hp) hoi) ?_
           refine ov (v2 V_and) ?_
           first | refine ov (viA0 32) ?_ | refine ov (viA0Z 32) ?_
           first | refine ov vldI ?_ | refine ov vld ?_
           refine ov (v2 V_xor) ?_
           first | refine ov (viA0 32) ?_ | refine ov (viA0Z 32) ?_
           first | refine ostI ?_ | refine ost ?_
           refine WL.nil ?_
           obtain ⟨T, hT⟩ : ∃ x, x = badF (tgL (lnk 1) (wE oo) oo.b) (andI .i64 oo.id 31).toNat 1 := ⟨_, rfl⟩
           rw [show List.set (tgL (lnk 1) (wE oo) oo.b) (andI .i64 oo.id 31).toNat (xorI .u8 (List.getD (tgL (lnk 1) (wE oo) oo.b) (andI .i64 oo.id 31).toNat 0) 1) = T from hT.symm]
           exact jn (T) [0, 1, 2, 4, 5, 6, 7, 9, 10, 11, 12, 13, 14, 15, 41, 54, 71] (by (try dsimp only); exact (by first | exact ⟨by rw [hT]; exact tgL_len, by rw [hT]; exact tgL_bytes, fun h => absurd h (by assumption)⟩ | exact ⟨by rw [hT, badF_len]; exact tgL_len, by rw [hT]; exact badF_bytes tgL_bytes, fun _ => by rw [hT]; exact xor1_ne tgL_len tgL_bytes (by omega)⟩)) rfl cov
         · refine W.skip ?_
           obtain ⟨T, hT⟩ : ∃ x, x = (tgL (lnk 1) (wE oo) oo.b) := ⟨_, rfl⟩
           rw [← hT]
           exact jn (T) [0, 1, 2, 4, 5, 6, 7, 9, 10, 11, 12, 13, 14, 15, 41, 54, 71] (by (try dsimp only); exact (by first | exact ⟨by rw [hT]; exact tgL_len, by rw [hT]; exact tgL_bytes, fun h => absurd h (by assumption)⟩ | exact ⟨by rw [hT, badF_len]; exact tgL_len, by rw [hT]; exact badF_bytes tgL_bytes, fun _ => by rw [hT]; exact xor1_ne tgL_len tgL_bytes (by omega)⟩)) rfl cov
       · rintro T ⟨hTl, hTb, hT4⟩; simp only [List.cons_append, List.nil_append]
         unfold enV wE
         refine sr ?_
         refine omv ?_
         refine ov (vlda 69) ?_
         refine ov (vlda 32) ?_
         refine omv ?_
         refine cgP _ rfl (fun w hp => snd20_calls b25.1.1 b25.1.2 5 l0 (by decide) e0 hb0 (ps3 b25.2.1.p b25.2.2.1.p b25.2.2.2.p) rfl m ck hS1.j.g (wE oo) oo.A oo.n oo.cap oo.b hwe hh T hTl hTb tn2 (by show ¬ ((1 : Int) = 2 ∨ tn2 < 0 ∨ (1000000 : Int) < tn2); omega) r89 z hS1.j.oka hS1.j.okc (by rw [hS1.j.pa]; rfl) (by rw [hS1.j.pc]; rfl) (by have := hS1.mz; omega) w (HP.here hp cov) (fun w1 M h1 => Sr.pastP hp h1 (hs := by exact hos.old0))) (fun r111 h111 => ?_)
         simp only [List.cons_append, List.nil_append, List.append_nil, List.append_assoc]
         refine WL.back (stpL b25.1.2 5 l0 r111.m r111.ck) ?_
         simp only [List.cons_append, List.nil_append, List.append_nil, List.append_assoc]
         refine WL.back (accP r111.a) ?_
         simp only [List.cons_append, List.nil_append, List.append_nil, List.append_assoc]
         refine WL.back (accP r111.c) ?_
         simp only [List.cons_append, List.nil_append, List.append_nil, List.append_assoc]
         have hsc111 := h111.sc
         have hst111 := h111.st
         unfold stV
         refine omv ?_
         refine ov vex ?_
         refine ov vex ?_
         refine oal [(1, [.int .i64 0]), (1, [.int .i64 0]), (1, [.int .i64 0]), (1, [.int .i64 0]), (32, List.replicate 32 (.int .u8 0)), (32, List.replicate 32 (.int .u8 0))] (fun b16 => ?_)
         refine osta 68 ?_
         refine oas ?_
         refine nq ?_
         refine W.seq ?_
         by_cases hk : r111.k = 0
         · obtain ⟨hN, hq1, hq2, hq3⟩ := hS1.yes ho h111 hk
           have h3 : ¬ oo.do_ = 3 := by rw [hsu] at hq2; simpa using hq2
           have h4 : ¬ oo.do_ = 4 := fun h => hT4 h hq1
           have hmay : mayB (wE oo) tn2 = true := mayB_of hh (by omega)
           have hchk : checkF l0 5 r111.s tn2 = 0 := by rw [hq3]; exact stamp_chk hmay
           have hst := hq3.trans (stampF_yes hmay)
           have hcm : r111.s.commit = oo.e.commit := by rw [hst]; rfl
           have hfr : r111.s.fr = 1 := by rw [hst]; rfl
           have hcb111 : bytes r111.s.commit := by rw [hcm]; exact ho.e.cb
           have htb111 : bytes r111.s.tag := by rw [hst]; exact tagF_bytes
           have hNl : r111.c.ms.length = ws.length + 1 ∧ ws.length + 1 ≤ 8 := by have := hN.len; simpa using this
           refine W.region ?_
           refine omv ?_
           refine ov (v2 V_eql) ?_
           refine oas ?_
           refine nq ?_
           refine W.seq ?_
           refine sr ?_
           refine omv ?_
           refine omv ?_
           refine oy rfl (decide_eq_true hk) ?_
           refine omv ?_
           refine oy rfl (decide_eq_true hk) ?_
           refine omv ?_
           refine oy rfl (decide_eq_false h3) ?_
           refine omv ?_
           refine oy rfl (decide_eq_false h3) ?_
           refine omv ?_
           refine oy rfl (decide_eq_false h3) ?_
           refine ov (viO 106) ?_
           refine oy rfl (decide_eq_false h3) ?_
           refine ov (vfa 0 1) ?_
           refine oy rfl (decide_eq_false h3) ?_
           refine ov (vldOs' 106 i 0 (fun x hx => (hok x hx).len) (fun w hp => hs.old0 w hp) hoi) ?_
           refine oy rfl (decide_eq_false h3) ?_
           refine ov (v2 V_eql) ?_
           refine oy rfl (decide_eq_true hk) ?_
           refine ov (V_pick_f rfl (decide_eq_false h3) rfl) ?_
           refine oy rfl (decide_eq_true hk) ?_
           refine omv ?_
           refine oy rfl (decide_eq_false h4) ?_
           refine omv ?_
           refine oy rfl (decide_eq_false h4) ?_
           refine ov (vlda 68) ?_
           refine oy rfl (decide_eq_false h4) ?_
           refine omv ?_
           refine oy rfl (decide_eq_false h4) ?_
           refine cg rfl (fun w hp => chk16_calls r111.s tn2 hsc111 hcb111 hst111 htb111 b28 5 l0 m2 ck2 w rat (HP.held hp (b28.m, .obj (mapO .i64 m2 ck2)) mm) hg2 e0 hb0 (by decide)) (fun b131 h131 => ?_)
           refine oy rfl (decide_eq_false h4) ?_
           refine ov (v2 V_neq) ?_
           refine oy rfl (decide_eq_true hk) ?_
           refine ov (V_pick_f rfl (decide_eq_false h4) rfl) ?_
           refine oy rfl (decide_eq_true hk) ?_
           refine omv ?_
           refine oy rfl (by rw [hchk]; rfl) ?_
           refine ov (vfa0 4 32) ?_
           refine oy rfl (by rw [hchk]; rfl) ?_
           refine ov (vlda 32) ?_
           refine oy rfl (by rw [hchk]; rfl) ?_
           refine ov (vfa0 2 32) ?_
           refine oy rfl (by rw [hchk]; rfl) ?_
           refine ov (vlda 32) ?_
           refine oy rfl (by rw [hchk]; rfl) ?_
           refine ov (vneqI 3 32 .u8) ?_
           refine oy rfl (decide_eq_true hk) ?_
           refine ov (V_pick_f rfl (by rw [hchk]; rfl) rfl) ?_
           refine oy rfl (decide_eq_true hk) ?_
           refine omv ?_
           refine oy rfl (by simp [hcm]) ?_
           refine ov (vfa0 1 1) ?_
           refine oy rfl (by simp [hcm]) ?_
           refine ov vld ?_
           refine oy rfl (by simp [hcm]) ?_
           refine ov (v2 V_neq) ?_
           refine oy rfl (decide_eq_true hk) ?_
           refine ov (V_pick_f rfl (by simp [hcm]) rfl) ?_
           refine ov (V_pick_t rfl (decide_eq_true hk) rfl) ?_
           refine nq ?_
           refine W.cond_false rfl (by simp [hfr]) ?_
           refine W.skip ?_
           refine WQ.then ?_
           refine W.seq ?_
           refine sr ?_
           refine omv ?_
           refine nq ?_
           refine W.cond_true rfl (decide_eq_true hk) ?_
           refine W.region ?_
           refine omv ?_
           refine ov (vlda 69) ?_
           refine obsM 33 120 (fun b150 => ?_) (wV_one (o := oo)) (wV_len ho)
           refine oapMG 33 120 (fun o151 h151 _ => ?_) (m := 1) (ys := wV oo) (fun w hp => (HP.sown hp (b := b150) (by repeat (first | exact List.Mem.head _ | apply List.Mem.tail)) (wV_one (o := oo))).mul) (flatMap_len' (fun x hx => wV_len (hS.wok x hx))) hgo0
           refine oas ?_
           refine nx ?_
           refine omv ?_
           refine cgP _ rfl (fun w hp => mails20_calls b25.1.2.r b25.1.1 (ps3 b25.2.1.p b25.2.2.1.p b25.2.2.2.p) rfl 2 r111.c h111.okc (by rw [h111.pc, hS1.j.pc]; rfl) w (HP.here hp cov)) (fun r154 h154 => ?_)
           simp only [List.cons_append, List.nil_append, List.append_nil, List.append_assoc]
           refine WL.back (accP r111.c) ?_
           simp only [List.cons_append, List.nil_append, List.append_nil, List.append_assoc]
           refine WL.back (gLM 138 r154.1 r154.2.length (r154.2.flatMap mlV) 68) ?_
           simp only [List.cons_append, List.nil_append, List.append_nil, List.append_assoc]
           refine WL.back (r154.2.flatMap mbL) ?_
           simp only [List.cons_append, List.nil_append, List.append_nil, List.append_assoc]
           have hml154 := POK.len h154.1
           rw [absms] at hml154
           refine omv ?_
           refine ov vex ?_
           refine ov vex ?_
           refine oas ?_
           refine oas ?_
           refine nq ?_
           refine W.seq ?_
           refine sr ?_
           refine omv ?_
           refine ov (v2 V_neq) ?_
           refine omv ?_
           refine oy rfl rfl ?_
           refine omv ?_
           refine oy rfl rfl ?_
           refine ov vlenS ?_
           refine oy rfl rfl ?_
           refine omv ?_
           refine oy rfl rfl ?_
           refine ov vlenS ?_
           refine oy rfl rfl ?_
           refine ov (v2 V_neq) ?_
           refine ov (V_pick_f rfl rfl rfl) ?_
           refine omv ?_
           refine oy rfl (by simp; omega) ?_
           refine omv ?_
           refine oy rfl (by simp; omega) ?_
           refine ov vlenS ?_
           refine oy rfl (by simp; omega) ?_
           refine ov (v2 V_gtr) ?_
           refine ov (V_pick_f rfl (by simp; omega) rfl) ?_
           refine nq ?_
           refine W.cond_false rfl (by simp; omega) ?_
           refine W.skip ?_
           refine WQ.then ?_
           refine W.seq ?_
           obtain ⟨OO, hOO⟩ : ∃ x, x = o151 := ⟨_, rfl⟩
           subst hOO
           obtain ⟨WW, hWW⟩ : ∃ x, x = ws ++ [oo] := ⟨_, rfl⟩
           rw [← hWW] at hN
           have hOK : GrOK OO WW.length := by rw [hWW, List.length_append]; exact h151
           rw [show ws.flatMap wV ++ wV oo = WW.flatMap wV from by rw [hWW]; simp, show ws.length + 1 = WW.length from by rw [hWW]; simp]
           refine W.region ?_
           refine oas ?_
           refine nq ?_
           refine W.block ?_
           -- LOOP 1
           refine W.pick (S' := [(21, _), (0, _), (1, _), (2, _), (4, _), (5, _), (6, _), (7, _), (9, _), (10, _), (11, _), (12, _), (13, _), (14, _), (15, _), (16, _), (17, _), (18, _), (19, _), (20, _), (41, _), (54, _), (71, _), (146, _), (147, _), (170, _)]) [21, 0, 1, 2, 4, 5, 6, 7, 9, 10, 11, 12, 13, 14, 15, 16, 17, 18, 19, 20, 41, 54, 71, 146, 147, 170] rfl ?_
           refine W.loopG (σ := Nat) (fun q => q ≤ r154.2.length) (fun q => [(21, .int .i64 (q : Nat))]) (fun q => []) [(b25.1.1, _), (b2, _), (b28.r, _), (b28.v, _), (b28.k, _), (b28.m, _)] (fun q => stpL b25.1.2 5 l0 r111.m r111.ck ++ (accP b25.2.1 ++ (accP r111.a ++ (accP r111.c ++ ((gLM 69 OO WW.length (WW.flatMap wV) 33) ++ ((gLM 138 r154.1 r154.2.length (r154.2.flatMap mlV) 68) ++ (r154.2.flatMap mbL))))))) (fun q => r154.2.length - q) 0 rfl cov (Nat.zero_le _) ?_
           rintro q hq
           refine W.seq ?_
           refine sr ?_
           refine omv ?_
           refine omv ?_
           refine ov vlenS ?_
           refine ov (v2 V_lss) ?_
           refine nq ?_
           refine W.cond_dec rfl (fun g4 => ?_) (fun g4 => ?_)
           · refine W.skip ?_
             refine WQ.then ?_
             refine W.seq ?_
             refine W.block ?_
             refine W.seq ?_
             have hNl2 := hN.len
             obtain ⟨gb, gc, grs, hgo, hgc⟩ := gr_open h154.2.2 (by omega)
             obtain ⟨mm, hm⟩ : ∃ m, r154.2[q]? = some m := ⟨_, List.getElem?_eq_getElem (by omega)⟩
             have hmm := List.mem_of_getElem? hm
             have hmk := h154.2.1.1 mm hmm
             obtain ⟨gb2, gc2, grs2, hgo2, hgc2⟩ := gr_open hOK (by omega)
             obtain ⟨op, hop0⟩ : ∃ p, WW[q]? = some p := ⟨_, List.getElem?_eq_getElem (by omega)⟩
             obtain ⟨hl1, hl2, hl3, hop⟩ := hN.at_ h154.1 hm hop0
             refine dr (.q 0 (.q 1 (.q 2 (.q 3 (.q 4 (.q 5 (.q 6 (.q 7 (.q 8 (.l 9 (.q 10 (.done)))))))))))) _ ?_
             refine dq rfl (V_move rfl) ?_
             refine dq rfl (V_move rfl) ?_
             refine dq rfl (viGM 138 hgo) ?_
             refine dq rfl (vfa 1 69) ?_
             refine dq rfl (vldMLe q hgo h154.2.2 h154.2.1.1 hm) ?_
             refine dq rfl (V_move rfl) ?_
             refine dq rfl (V_move rfl) ?_
             refine dq rfl (viGM 69 hgo2) ?_
             refine dq rfl (vldWs (ds := enV { mlE mm with body := .slice op.A mm.1.l.length op.cap }) q hgo2 hOK (fun x hx => wV_len (hN.wok x hx)) hop0 (by rw [hl1]; rfl)) ?_
             refine WD.l ?_
             refine dcp rfl rfl (fun w hp => same12_calls (mlE mm) (gA mm.2) mm.1.l.length (gC mm.2) mm.1.l hmk.en op.A op.cap w (mbS hp hmm hmk) (by rw [hl3, hl2]; exact hop.s.old0 w hp)) ?_
             refine dq rfl (V_assign rfl) ?_
             refine WD.done ?_
             refine WQ.then ?_
             refine sr ?_
             refine omv ?_
             refine ov vnot ?_
             refine nq ?_
             refine W.cond_false rfl rfl ?_
             refine W.skip ?_
             refine WQ.block_normal ?_
             refine WQ.then ?_
             refine W.region ?_
             refine omv ?_
             first | refine ov vaddN ?_ | refine ov vadd ?_
             refine oas ?_
             refine WL.nil ?_
             exact ag (q + 1) [21, 0, 1, 2, 4, 5, 6, 7, 9, 10, 11, 12, 13, 14, 15, 16, 17, 18, 19, 20, 41, 54, 71, 146, 147, 170] (by (try dsimp only); exact (by omega)) (by (try dsimp only); omega) rfl cov
           · refine W.exit ?_
             refine WQ.then_exit ?_
             refine WQ.then_exit ?_
             refine WQ.block_hit ?_
             refine WQ.block_normal ?_
             refine WQ.then ?_
             refine W.region ?_
             refine omv ?_
             first | refine ov vaddN ?_ | refine ov vadd ?_
             refine oas ?_
             refine WL.nil ?_
             exact ag ((i + 1, tn2, r111.a, r111.c, r111.m, r111.ck, b131.1, b131.2, OO, WW)) [9, 10, 11, 0, 1, 2, 4, 5, 6, 7, 41] (by (try dsimp only); exact ⟨by omega, by omega, hN, h131, hOK⟩) (by (try dsimp only); omega) rfl cov
         · have hN := hS1.no h111 hk
           have hNl := hN.len
           refine W.region ?_
           refine omv ?_
           refine ov (v2 V_eql) ?_
           refine oas ?_
           refine nq ?_
           refine W.seq ?_
           refine sr ?_
           refine omv ?_
           refine omv ?_
           refine on rfl (decide_eq_false hk) ?_
           refine on rfl (decide_eq_false hk) ?_
           refine onu rfl ?_
           refine onu rfl ?_
           refine onu rfl ?_
           refine onu rfl ?_
           refine onu rfl ?_
           refine onu rfl ?_
           refine on rfl (decide_eq_false hk) ?_
           refine on rfl (decide_eq_false hk) ?_
           refine onu rfl ?_
           refine onu rfl ?_
           refine onu rfl ?_
           refine onu rfl ?_
           refine onu rfl ?_
           refine on rfl (decide_eq_false hk) ?_
           refine on rfl (decide_eq_false hk) ?_
           refine onu rfl ?_
           refine onu rfl ?_
           refine onu rfl ?_
           refine onu rfl ?_
           refine onu rfl ?_
           refine on rfl (decide_eq_false hk) ?_
           refine on rfl (decide_eq_false hk) ?_
           refine onu rfl ?_
           refine onu rfl ?_
           refine onu rfl ?_
           refine on rfl (decide_eq_false hk) ?_
           refine ov (V_pick_f rfl (decide_eq_false hk) rfl) ?_
           refine nq ?_
           refine W.cond_false rfl rfl ?_
           refine W.skip ?_
           refine WQ.then ?_
           refine W.seq ?_
           refine sr ?_
           refine omv ?_
           refine nq ?_
           refine W.cond_false rfl (decide_eq_false hk) ?_
           refine W.skip ?_
           refine WQ.then ?_
           refine sr ?_
           refine omv ?_
           refine cgP _ rfl (fun w hp => mails20_calls b25.1.2.r b25.1.1 (ps3 b25.2.1.p b25.2.2.1.p b25.2.2.2.p) rfl 2 r111.c h111.okc (by rw [h111.pc, hS1.j.pc]; rfl) w (HP.here hp cov)) (fun r154 h154 => ?_)
           simp only [List.cons_append, List.nil_append, List.append_nil, List.append_assoc]
           refine WL.back (accP r111.c) ?_
           simp only [List.cons_append, List.nil_append, List.append_nil, List.append_assoc]
           refine WL.back (gLM 138 r154.1 r154.2.length (r154.2.flatMap mlV) 68) ?_
           simp only [List.cons_append, List.nil_append, List.append_nil, List.append_assoc]
           refine WL.back (r154.2.flatMap mbL) ?_
           simp only [List.cons_append, List.nil_append, List.append_nil, List.append_assoc]
           have hml154 := POK.len h154.1
           rw [absms] at hml154
           refine omv ?_
           refine ov vex ?_
           refine ov vex ?_
           refine oas ?_
           refine oas ?_
           refine nq ?_
           refine W.seq ?_
           refine sr ?_
           refine omv ?_
           refine ov (v2 V_neq) ?_
           refine omv ?_
           refine oy rfl rfl ?_
           refine omv ?_
           refine oy rfl rfl ?_
           refine ov vlenS ?_
           refine oy rfl rfl ?_
           refine omv ?_
           refine oy rfl rfl ?_
           refine ov vlenS ?_
           refine oy rfl rfl ?_
           refine ov (v2 V_neq) ?_
           refine ov (V_pick_f rfl rfl rfl) ?_
           refine omv ?_
           refine oy rfl (by simp; omega) ?_
           refine omv ?_
           refine oy rfl (by simp; omega) ?_
           refine ov vlenS ?_
           refine oy rfl (by simp; omega) ?_
           refine ov (v2 V_gtr) ?_
           refine ov (V_pick_f rfl (by simp; omega) rfl) ?_
           refine nq ?_
           refine W.cond_false rfl (by simp; omega) ?_
           refine W.skip ?_
           refine WQ.then ?_
           refine W.seq ?_
           obtain ⟨OO, hOO⟩ : ∃ x, x = o := ⟨_, rfl⟩
           subst hOO
           obtain ⟨WW, hWW⟩ : ∃ x, x = ws := ⟨_, rfl⟩
           subst hWW
           have hOK := hgo0
           refine W.region ?_
           refine oas ?_
           refine nq ?_
           refine W.block ?_
           -- LOOP 2
           refine W.pick (S' := [(21, _), (0, _), (1, _), (2, _), (4, _), (5, _), (6, _), (7, _), (9, _), (10, _), (11, _), (12, _), (13, _), (14, _), (15, _), (16, _), (17, _), (18, _), (19, _), (20, _), (41, _), (54, _), (71, _), (146, _), (147, _), (170, _)]) [21, 0, 1, 2, 4, 5, 6, 7, 9, 10, 11, 12, 13, 14, 15, 16, 17, 18, 19, 20, 41, 54, 71, 146, 147, 170] rfl ?_
           refine W.loopG (σ := Nat) (fun q => q ≤ r154.2.length) (fun q => [(21, .int .i64 (q : Nat))]) (fun q => []) [(b25.1.1, _), (b2, _), (b28.r, _), (b28.v, _), (b28.k, _), (b28.m, _)] (fun q => stpL b25.1.2 5 l0 r111.m r111.ck ++ (accP b25.2.1 ++ (accP r111.a ++ (accP r111.c ++ ((gLM 69 OO WW.length (WW.flatMap wV) 33) ++ ((gLM 138 r154.1 r154.2.length (r154.2.flatMap mlV) 68) ++ (r154.2.flatMap mbL))))))) (fun q => r154.2.length - q) 0 rfl cov (Nat.zero_le _) ?_
           rintro q hq
           refine W.seq ?_
           refine sr ?_
           refine omv ?_
           refine omv ?_
           refine ov vlenS ?_
           refine ov (v2 V_lss) ?_
           refine nq ?_
           refine W.cond_dec rfl (fun g5 => ?_) (fun g5 => ?_)
           · refine W.skip ?_
             refine WQ.then ?_
             refine W.seq ?_
             refine W.block ?_
             refine W.seq ?_
             have hNl2 := hN.len
             obtain ⟨gb, gc, grs, hgo, hgc⟩ := gr_open h154.2.2 (by omega)
             obtain ⟨mm, hm⟩ : ∃ m, r154.2[q]? = some m := ⟨_, List.getElem?_eq_getElem (by omega)⟩
             have hmm := List.mem_of_getElem? hm
             have hmk := h154.2.1.1 mm hmm
             obtain ⟨gb2, gc2, grs2, hgo2, hgc2⟩ := gr_open hOK (by omega)
             obtain ⟨op, hop0⟩ : ∃ p, WW[q]? = some p := ⟨_, List.getElem?_eq_getElem (by omega)⟩
             obtain ⟨hl1, hl2, hl3, hop⟩ := hN.at_ h154.1 hm hop0
             refine dr (.q 0 (.q 1 (.q 2 (.q 3 (.q 4 (.q 5 (.q 6 (.q 7 (.q 8 (.l 9 (.q 10 (.done)))))))))))) _ ?_
             refine dq rfl (V_move rfl) ?_
             refine dq rfl (V_move rfl) ?_
             refine dq rfl (viGM 138 hgo) ?_
             refine dq rfl (vfa 1 69) ?_
             refine dq rfl (vldMLe q hgo h154.2.2 h154.2.1.1 hm) ?_
             refine dq rfl (V_move rfl) ?_
             refine dq rfl (V_move rfl) ?_
             refine dq rfl (viGM 69 hgo2) ?_
             refine dq rfl (vldWs (ds := enV { mlE mm with body := .slice op.A mm.1.l.length op.cap }) q hgo2 hOK (fun x hx => wV_len (hN.wok x hx)) hop0 (by rw [hl1]; rfl)) ?_
             refine WD.l ?_
             refine dcp rfl rfl (fun w hp => same12_calls (mlE mm) (gA mm.2) mm.1.l.length (gC mm.2) mm.1.l hmk.en op.A op.cap w (mbS hp hmm hmk) (by rw [hl3, hl2]; exact hop.s.old0 w hp)) ?_
             refine dq rfl (V_assign rfl) ?_
             refine WD.done ?_
             refine WQ.then ?_
             refine sr ?_
             refine omv ?_
             refine ov vnot ?_
             refine nq ?_
             refine W.cond_false rfl rfl ?_
             refine W.skip ?_
             refine WQ.block_normal ?_
             refine WQ.then ?_
             refine W.region ?_
             refine omv ?_
             first | refine ov vaddN ?_ | refine ov vadd ?_
             refine oas ?_
             refine WL.nil ?_
             exact ag (q + 1) [21, 0, 1, 2, 4, 5, 6, 7, 9, 10, 11, 12, 13, 14, 15, 16, 17, 18, 19, 20, 41, 54, 71, 146, 147, 170] (by (try dsimp only); exact (by omega)) (by (try dsimp only); omega) rfl cov
           · refine W.exit ?_
             refine WQ.then_exit ?_
             refine WQ.then_exit ?_
             refine WQ.block_hit ?_
             refine WQ.block_normal ?_
             refine WQ.then ?_
             refine W.region ?_
             refine omv ?_
             first | refine ov vaddN ?_ | refine ov vadd ?_
             refine oas ?_
             refine WL.nil ?_
             exact ag ((i + 1, tn2, r111.a, r111.c, r111.m, r111.ck, m2, ck2, OO, WW)) [9, 10, 11, 0, 1, 2, 4, 5, 6, 7, 41] (by (try dsimp only); exact ⟨by omega, by omega, hN, hg2, hOK⟩) (by (try dsimp only); omega) rfl cov
     · apply W.j1
       · intro hJ
         refine dr (.q 1 (.l2 0 (.l2 2 (.q 3 (.q 4 (.q 5 (.l 6 (.l 7 (.q 8 (.done))))))) 6 (.l 2 (.q 3 (.q 4 (.q 5 (.l 7 (.q 8 (.done)))))))) 6 (.l 0 (.l 2 (.q 3 (.q 4 (.q 5 (.l 7 (.q 8 (.done)))))))))) [(b12, _)] ?_
         refine dq rfl (vlda 69) ?_
         refine WD.l2 ?_ ?_
         · refine dcp rfl rfl (fun w hp => link20_calls 1 w) ?_
           refine WD.l2 ?_ ?_
           · refine dcp rfl rfl (fun w hp => tag20_bad (lnk 1) lnk_len (wE oo) oo.A oo.n oo.cap oo.b hwe hh w) ?_
             refine dq rfl (V_move rfl) ?_
             refine dq rfl vex ?_
             refine dq rfl vex ?_
             refine WD.l ?_
             refine dal rfl [(32, List.replicate 32 (.int .u8 0))] (fun b13 => ?_)
             refine WD.l ?_
             refine dsta rfl 32 ?_
             refine dq rfl (V_assign rfl) ?_
             refine WD.done ?_
             exact WQ.pick (S' := [(0, _), (1, _), (2, _), (4, _), (5, _), (6, _), (7, _), (9, _), (10, _), (11, _), (12, _), (13, _), (14, _), (41, _), (54, _)]) [0, 1, 2, 4, 5, 6, 7, 9, 10, 11, 12, 13, 14, 41, 54] rfl (hJ b13)
           · refine dal rfl [(32, List.replicate 32 (.int .u8 0))] (fun b13 => ?_)
             refine WD.l ?_
             refine dcp rfl rfl (fun w hp => tag20_bad (lnk 1) lnk_len (wE oo) oo.A oo.n oo.cap oo.b hwe hh w) ?_
             refine dq rfl (V_move rfl) ?_
             refine dq rfl vex ?_
             refine dq rfl vex ?_
             refine WD.l ?_
             refine dsta rfl 32 ?_
             refine dq rfl (V_assign rfl) ?_
             refine WD.done ?_
             exact WQ.pick (S' := [(0, _), (1, _), (2, _), (4, _), (5, _), (6, _), (7, _), (9, _), (10, _), (11, _), (12, _), (13, _), (14, _), (41, _), (54, _)]) [0, 1, 2, 4, 5, 6, 7, 9, 10, 11, 12, 13, 14, 41, 54] rfl (hJ b13)
         · refine dal rfl [(32, List.replicate 32 (.int .u8 0))] (fun b13 => ?_)
           refine WD.l ?_
           refine dcp rfl rfl (fun w hp => link20_calls 1 w) ?_
           refine WD.l ?_
           refine dcp rfl rfl (fun w hp => tag20_bad (lnk 1) lnk_len (wE oo) oo.A oo.n oo.cap oo.b hwe hh w) ?_
           refine dq rfl (V_move rfl) ?_
           refine dq rfl vex ?_
           refine dq rfl vex ?_
           refine WD.l ?_
           refine dsta rfl 32 ?_
           refine dq rfl (V_assign rfl) ?_
           refine WD.done ?_
           exact WQ.pick (S' := [(0, _), (1, _), (2, _), (4, _), (5, _), (6, _), (7, _), (9, _), (10, _), (11, _), (12, _), (13, _), (14, _), (41, _), (54, _)]) [0, 1, 2, 4, 5, 6, 7, 9, 10, 11, 12, 13, 14, 41, 54] rfl (hJ b13)
       intro b13
       refine WQ.then ?_
       refine W.seq ?_
       refine sr ?_
       refine omv ?_
       refine ov (v2 V_neq) ?_
       refine nq ?_
       refine W.cond_true rfl (by decide) ?_
       refine sr ?_
       refine omv ?_
       refine oas ?_
       refine nq ?_
       refine W.ret ?_
       refine WQ.then_ret ?_
       refine WQ.block_ret ?_
       refine WQ.then_ret ?_
       refine WQ.then_ret ?_
       refine WQ.block_ret ?_
       refine WQ.then_ret ?_
       refine WQ.ret1 Try.results6 (.tmp rfl) ?_
       intro w' hp; exact ⟨rfl, hp.forget⟩
   · refine W.exit ?_
     refine WQ.then_exit ?_
     refine WQ.then_exit ?_
     refine WQ.block_hit ?_
     refine WQ.then ?_
     refine sr ?_
     refine omv ?_
     refine oas ?_
     refine nq ?_
     refine W.ret ?_
     refine WQ.ret1 Try.results6 (.tmp rfl) ?_
     intro w' hp; exact ⟨rfl, hp.forget⟩

end Go.Proofs.Ytmeckbjinmgbbaa