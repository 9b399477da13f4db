/- ModerAppeals: its walk. -/
import Derived.Test.YtmeckbjinmgbbaaGreatApp
set_option linter.unusedVariables false
set_option linter.unusedSimpArgs false

namespace Go.Proofs.YtmeckbjinmgbbaaGreat
open Go.X

set_option maxHeartbeats 1000000 in
theorem moderAppeals_calls (l0 : List Int) (e0 : l0.length = 32) (hb0 : bytes l0) (a1 a2 : Int) (w : World) :
    Calls Tryz.prog 3 [AG [(32, iv .u8 l0)], .int .i64 a1, .int .i64 a2].toArray w fun e w' => e = .returned (.bool true) ∧ HP w w' [] [] := by
 have k0 := newD_ok (n := 64) (by omega) (by omega)
 have hw7 : timeB 7 = true ∧ (6 : Int) ≤ 7 ∧ (7 : Int) ≤ 6 + 50 := ⟨rfl, by decide, by decide⟩
 refine calls_of_W Tryz.func3 rfl Tryz.ntmps3 rfl rfl (HP.refl w []) ?_
 refine sr ?_
 refine obxa (fun b3 => ?_)
 refine oas ?_
 refine nx ?_
 refine cp rfl (fun w hp => awake24_calls w) ?_
 refine oas ?_
 refine nx ?_
 refine cg rfl (fun w hp => new21_calls 64 (by omega) (by omega) w) (fun b25 h25 => ?_)
 refine omv ?_
 refine ov vex ?_
 refine ov vex ?_
 refine oas ?_
 refine oas ?_
 refine nx ?_
 refine ov (vlda 32) ?_
 refine omv ?_
 refine cgP _ rfl (fun w hp => begun24_calls l0 e0 b25 (newD 64) k0 w (HP.here hp cov)) (fun r31 h31 => ?_)
 simp only [List.cons_append, List.nil_append, List.append_nil, List.append_assoc]
 refine WL.back (mwL l0 ({ r31.1 with K := b25 } : MA) r31.2) ?_
 simp only [List.cons_append, List.nil_append, List.append_nil, List.append_assoc]
 refine omv ?_
 refine ov vex ?_
 refine ov vex ?_
 refine oas ?_
 refine oas ?_
 refine nq ?_
 refine W.seq ?_
 refine W.seq ?_
 by_cases c1 : a1 < 0
 · refine W.region ?_
   refine omv ?_
   refine ov (V_eqlP (by kernel_rfl) rfl rfl) ?_
   refine omv ?_
   refine oy rfl rfl ?_
   refine omv ?_
   refine oy rfl rfl ?_
   refine ov (V_eqlP (by kernel_rfl) rfl rfl) ?_
   refine ov (V_pick_f rfl rfl rfl) ?_
   refine omv ?_
   refine oy rfl rfl ?_
   refine omv ?_
   refine oy rfl rfl ?_
   refine ov (v2 V_lss) ?_
   refine ov (V_pick_f rfl rfl rfl) ?_
   refine omv ?_
   refine on rfl (decide_eq_true (by omega)) ?_
   refine on rfl (decide_eq_true (by omega)) ?_
   refine ov (V_pick_t rfl (decide_eq_true (by omega)) rfl) ?_
   refine omv ?_
   refine on rfl rfl ?_
   refine on rfl rfl ?_
   refine ov (V_pick_t rfl rfl rfl) ?_
   refine omv ?_
   refine on rfl rfl ?_
   refine on rfl rfl ?_
   refine ov (V_pick_t rfl rfl rfl) ?_
   refine nq ?_
   refine W.cond_true rfl rfl ?_
   refine sr ?_
   refine omv ?_
   refine omv ?_
   refine oy rfl rfl ?_
   refine omv ?_
   refine oy rfl rfl ?_
   refine ov (V_neqP (by kernel_rfl) rfl rfl) ?_
   refine ov (V_pick_t rfl rfl rfl) ?_
   refine oas ?_
   refine nq ?_
   refine W.ret ?_
   refine WQ.then_ret ?_
   refine WQ.ret1 Tryz.results3 (.tmp rfl) ?_
   intro w' hp; exact ⟨by first | rfl | (simp; done) | (simp; omega), hp.forget⟩
 · by_cases c2 : 6 < a1
   · refine W.region ?_
     refine omv ?_
     refine ov (V_eqlP (by kernel_rfl) rfl rfl) ?_
     refine omv ?_
     refine oy rfl rfl ?_
     refine omv ?_
     refine oy rfl rfl ?_
     refine ov (V_eqlP (by kernel_rfl) rfl rfl) ?_
     refine ov (V_pick_f rfl rfl rfl) ?_
     refine omv ?_
     refine oy rfl rfl ?_
     refine omv ?_
     refine oy rfl rfl ?_
     refine ov (v2 V_lss) ?_
     refine ov (V_pick_f rfl rfl rfl) ?_
     refine omv ?_
     refine oy rfl (decide_eq_false (by omega)) ?_
     refine omv ?_
     refine oy rfl (decide_eq_false (by omega)) ?_
     refine ov (v2 V_gtr) ?_
     refine ov (V_pick_f rfl (decide_eq_false (by omega)) rfl) ?_
     refine omv ?_
     refine on rfl (decide_eq_true (by omega)) ?_
     refine on rfl (decide_eq_true (by omega)) ?_
     refine ov (V_pick_t rfl (decide_eq_true (by omega)) rfl) ?_
     refine omv ?_
     refine on rfl rfl ?_
     refine on rfl rfl ?_
     refine ov (V_pick_t rfl rfl rfl) ?_
     refine nq ?_
     refine W.cond_true rfl rfl ?_
     refine sr ?_
     refine omv ?_
     refine omv ?_
     refine oy rfl rfl ?_
     refine omv ?_
     refine oy rfl rfl ?_
     refine ov (V_neqP (by kernel_rfl) rfl rfl) ?_
     refine ov (V_pick_t rfl rfl rfl) ?_
     refine oas ?_
     refine nq ?_
     refine W.ret ?_
     refine WQ.then_ret ?_
     refine WQ.ret1 Tryz.results3 (.tmp rfl) ?_
     intro w' hp; exact ⟨by first | rfl | (simp; done) | (simp; omega), hp.forget⟩
   · by_cases c3 : a2 < 0
     · refine W.region ?_
       refine omv ?_
       refine ov (V_eqlP (by kernel_rfl) rfl rfl) ?_
       refine omv ?_
       refine oy rfl rfl ?_
       refine omv ?_
       refine oy rfl rfl ?_
       refine ov (V_eqlP (by kernel_rfl) rfl rfl) ?_
       refine ov (V_pick_f rfl rfl rfl) ?_
       refine omv ?_
       refine oy rfl rfl ?_
       refine omv ?_
       refine oy rfl rfl ?_
       refine ov (v2 V_lss) ?_
       refine ov (V_pick_f rfl rfl rfl) ?_
       refine omv ?_
       refine oy rfl (decide_eq_false (by omega)) ?_
       refine omv ?_
       refine oy rfl (decide_eq_false (by omega)) ?_
       refine ov (v2 V_gtr) ?_
       refine ov (V_pick_f rfl (decide_eq_false (by omega)) rfl) ?_
       refine omv ?_
       refine oy rfl (decide_eq_false (by omega)) ?_
       refine omv ?_
       refine oy rfl (decide_eq_false (by omega)) ?_
       refine ov (v2 V_lss) ?_
       refine ov (V_pick_f rfl (decide_eq_false (by omega)) rfl) ?_
       refine omv ?_
       refine on rfl (decide_eq_true (by omega)) ?_
       refine on rfl (decide_eq_true (by omega)) ?_
       refine ov (V_pick_t rfl (decide_eq_true (by omega)) rfl) ?_
       refine nq ?_
       refine W.cond_true rfl rfl ?_
       refine sr ?_
       refine omv ?_
       refine omv ?_
       refine oy rfl rfl ?_
       refine omv ?_
       refine oy rfl rfl ?_
       refine ov (V_neqP (by kernel_rfl) rfl rfl) ?_
       refine ov (V_pick_t rfl rfl rfl) ?_
       refine oas ?_
       refine nq ?_
       refine W.ret ?_
       refine WQ.then_ret ?_
       refine WQ.ret1 Tryz.results3 (.tmp rfl) ?_
       intro w' hp; exact ⟨by first | rfl | (simp; done) | (simp; omega), hp.forget⟩
     · by_cases c4 : 90 < a2
       · refine W.region ?_
         refine omv ?_
         refine ov (V_eqlP (by kernel_rfl) rfl rfl) ?_
         refine omv ?_
         refine oy rfl rfl ?_
         refine omv ?_
         refine oy rfl rfl ?_
         refine ov (V_eqlP (by kernel_rfl) rfl rfl) ?_
         refine ov (V_pick_f rfl rfl rfl) ?_
         refine omv ?_
         refine oy rfl rfl ?_
         refine omv ?_
         refine oy rfl rfl ?_
         refine ov (v2 V_lss) ?_
         refine ov (V_pick_f rfl rfl rfl) ?_
         refine omv ?_
         refine oy rfl (decide_eq_false (by omega)) ?_
         refine omv ?_
         refine oy rfl (decide_eq_false (by omega)) ?_
         refine ov (v2 V_gtr) ?_
         refine ov (V_pick_f rfl (decide_eq_false (by omega)) rfl) ?_
         refine omv ?_
         refine oy rfl (decide_eq_false (by omega)) ?_
         refine omv ?_
         refine oy rfl (decide_eq_false (by omega)) ?_
         refine ov (v2 V_lss) ?_
         refine ov (V_pick_f rfl (decide_eq_false (by omega)) rfl) ?_
         refine omv ?_
         refine oy rfl (decide_eq_false (by omega)) ?_
         refine omv ?_
         refine oy rfl (decide_eq_false (by omega)) ?_
         refine ov (v2 V_gtr) ?_
         refine ov (V_pick_f rfl (decide_eq_false (by omega)) rfl) ?_
         refine nq ?_
         refine W.cond_true rfl (decide_eq_true (by omega)) ?_
         refine sr ?_
         refine omv ?_
         refine omv ?_
         refine oy rfl rfl ?_
         refine omv ?_
         refine oy rfl rfl ?_
         refine ov (V_neqP (by kernel_rfl) rfl rfl) ?_
         refine ov (V_pick_t rfl rfl rfl) ?_
         refine oas ?_
         refine nq ?_
         refine W.ret ?_
         refine WQ.then_ret ?_
         refine WQ.ret1 Tryz.results3 (.tmp rfl) ?_
         intro w' hp; exact ⟨by first | rfl | (simp; done) | (simp; omega), hp.forget⟩
       · refine W.region ?_
         refine omv ?_
         refine ov (V_eqlP (by kernel_rfl) rfl rfl) ?_
         refine omv ?_
         refine oy rfl rfl ?_
         refine omv ?_
         refine oy rfl rfl ?_
         refine ov (V_eqlP (by kernel_rfl) rfl rfl) ?_
         refine ov (V_pick_f rfl rfl rfl) ?_
         refine omv ?_
         refine oy rfl rfl ?_
         refine omv ?_
         refine oy rfl rfl ?_
         refine ov (v2 V_lss) ?_
         refine ov (V_pick_f rfl rfl rfl) ?_
         refine omv ?_
         refine oy rfl (decide_eq_false (by omega)) ?_
         refine omv ?_
         refine oy rfl (decide_eq_false (by omega)) ?_
         refine ov (v2 V_gtr) ?_
         refine ov (V_pick_f rfl (decide_eq_false (by omega)) rfl) ?_
         refine omv ?_
         refine oy rfl (decide_eq_false (by omega)) ?_
         refine omv ?_
         refine oy rfl (decide_eq_false (by omega)) ?_
         refine ov (v2 V_lss) ?_
         refine ov (V_pick_f rfl (decide_eq_false (by omega)) rfl) ?_
         refine omv ?_
         refine oy rfl (decide_eq_false (by omega)) ?_
         refine omv ?_
         refine oy rfl (decide_eq_false (by omega)) ?_
         refine ov (v2 V_gtr) ?_
         refine ov (V_pick_f rfl (decide_eq_false (by omega)) rfl) ?_
         refine nq ?_
         refine W.cond_false rfl (decide_eq_false (by omega)) ?_
         refine W.skip ?_
         refine WQ.then ?_
         refine W.seq ?_
         refine W.seq ?_
         obtain ⟨m, rfl⟩ : ∃ m : Nat, a1 = m := ⟨a1.toNat, by omega⟩
         obtain ⟨wt, rfl⟩ : ∃ m : Nat, a2 = m := ⟨a2.toNat, by omega⟩
         refine W.region ?_
         refine oas ?_
         refine nq ?_
         refine W.block ?_
         -- LOOP 0
         refine W.pick (S' := [(12, _), (0, _), (1, _), (2, _), (3, _), (6, _), (7, _), (8, _), (10, _), (11, _), (55, _)]) [12, 0, 1, 2, 3, 6, 7, 8, 10, 11, 55] rfl ?_
         refine W.loopG (σ := Nat × MW) (fun ⟨i, x⟩ => i ≤ m ∧ G1 l0 x i) (fun ⟨i, x⟩ => [(12, .int .i64 (i : Nat))]) (fun ⟨i, x⟩ => []) [(b3, _)] (fun ⟨i, x⟩ => mwL l0 ({ r31.1 with K := b25 } : MA) x) (fun ⟨i, x⟩ => m - i) (0, r31.2) rfl cov ⟨Nat.zero_le _, G1.new h31.1 h31.2⟩ ?_
         rintro ⟨i, x⟩ ⟨hi, hG⟩; dsimp only at hi hG ⊢
         have hgl := hG.g
         refine W.seq ?_
         refine sr ?_
         refine omv ?_
         refine omv ?_
         refine ov (v2 V_lss) ?_
         refine nq ?_
         refine W.cond_dec rfl (fun g1 => ?_) (fun g1 => ?_)
         · refine W.skip ?_
           refine WQ.then ?_
           refine W.seq ?_
           refine W.block ?_
           refine W.seq ?_
           have hMi : MdOK (i : Int) 4 5 6 := mdi (by omega) (by omega)
           refine W.region ?_
           refine omv ?_
           refine ov (vlda 32) ?_
           refine omv ?_
           refine cgG rfl (fun w hp => made24_calls l0 e0 hb0 (i : Int) 4 5 6 hMi w) (fun o70 h70 => ?_)
           refine cgP _ rfl (fun w hp => in24_md l0 ({ r31.1 with K := b25 } : MA) x hG.ok e0 hb0 (i : Int) 4 5 6 7 hMi o70 h70 0 (inE_new hMi hw7 (by rw [hG.q]; simp) (by rw [hG.j]; exact decide_eq_false (by omega)) (hG.no _ (by omega)) (by rw [hG.q]; decide)) w (HP.here hp cov) (fun w1 M h1 => Sr.pastP hp h1 (hs := fun w hp => HP.sgr hp dell (by simp [(hMi).len]) h70 iv_one))) (fun r71 h71 => ?_)
           simp only [List.cons_append, List.nil_append, List.append_nil, List.append_assoc]
           refine WL.back (mwL l0 ({ r31.1 with K := b25 } : MA) r71) ?_
           simp only [List.cons_append, List.nil_append, List.append_nil, List.append_assoc]
           obtain ⟨hm1, hm2, hm3, hm4, -, -⟩ := hG.mid h71.2
           refine omv ?_
           refine ov vex ?_
           refine ov vex ?_
           refine oas ?_
           refine oas ?_
           refine nx ?_
           refine omv ?_
           refine omv ?_
           refine cgP _ rfl (fun w hp => juS_md l0 ({ r31.1 with K := b25 } : MA) r71 h71.1 64 hm1 (i : Int) 4 5 6 8 hMi 0 (by rw [hm3]; exact if_pos rfl) (by rw [hm3]; rfl) (by omega) (by rw [hm4]; exact hG.no _ (by omega)) (by omega) (by rw [hm4]; have := hG.sl; omega) w (HP.here hp cov)) (fun r76 h76 => ?_)
           simp only [List.cons_append, List.nil_append, List.append_nil, List.append_assoc]
           refine WL.back (mwL l0 ({ r31.1 with K := b25 } : MA) r76) ?_
           simp only [List.cons_append, List.nil_append, List.append_nil, List.append_assoc]
           have hG2 := hG.step h71.2 h76.1 h76.2
           refine oas ?_
           refine nx ?_
           refine omv ?_
           refine ov (v2 V_neq) ?_
           refine omv ?_
           refine oy rfl (by decide) ?_
           refine omv ?_
           refine oy rfl (by decide) ?_
           refine ov (v2 V_neq) ?_
           refine ov (V_pick_f rfl (by decide) rfl) ?_
           refine nq ?_
           refine W.cond_false rfl (by decide) ?_
           refine W.skip ?_
           refine WQ.block_normal ?_
           refine WQ.then ?_
           refine W.region ?_
           refine omv ?_
           first | refine ov vaddN ?_ | refine ov vadd ?_
           refine oas ?_
           refine WL.nil ?_
           exact ag ((i + 1, r76)) [12, 0, 1, 2, 3, 6, 7, 8, 10, 11, 55] (by (try dsimp only); exact ⟨by omega, hG2⟩) (by (try dsimp only); omega) rfl cov
         · refine W.exit ?_
           refine WQ.then_exit ?_
           refine WQ.then_exit ?_
           refine WQ.block_hit ?_
           refine WQ.then ?_
           refine W.seq ?_
           refine W.seq ?_
           obtain rfl : m = i := by omega
           refine W.region ?_
           refine oas ?_
           refine nq ?_
           refine W.block ?_
           -- LOOP 1
           refine W.pick (S' := [(16, _), (0, _), (1, _), (2, _), (3, _), (6, _), (7, _), (8, _), (10, _), (11, _), (12, _), (55, _), (63, _)]) [16, 0, 1, 2, 3, 6, 7, 8, 10, 11, 12, 55, 63] rfl ?_
           refine W.loopG (σ := Nat × MW × Int × Int) (fun ⟨i, x, T, n4⟩ => i ≤ m ∧ G2 l0 x m i (min i 2) T n4 ∧ (0 ≤ T ∧ T ≤ 9) ∧ n4 = 2 - (min i 2 : Nat)) (fun ⟨i, x, T, n4⟩ => [(16, .int .i64 (i : Nat))]) (fun ⟨i, x, T, n4⟩ => []) [(b3, _)] (fun ⟨i, x, T, n4⟩ => mwL l0 ({ r31.1 with K := b25 } : MA) x) (fun ⟨i, x, T, n4⟩ => m - i) (0, x, 0, 2) rfl cov ⟨Nat.zero_le _, hG.two, by omega, rfl⟩ ?_
           rintro ⟨i, x, T, n4⟩ ⟨hi, hG, hT, hn4⟩; dsimp only at hi hG hT hn4 ⊢
           refine W.seq ?_
           refine sr ?_
           refine omv ?_
           refine omv ?_
           refine ov (v2 V_lss) ?_
           refine nq ?_
           refine W.cond_dec rfl (fun g2 => ?_) (fun g2 => ?_)
           · refine W.skip ?_
             refine WQ.then ?_
             refine W.seq ?_
             refine W.block ?_
             refine sr ?_
             refine omv ?_
             refine omv ?_
             obtain ⟨p5, t5, n5, ht5⟩ := hG.t5
             refine cgP _ rfl (fun w hp => ap_inl l0 ({ r31.1 with K := b25 } : MA) x hG.ok 64 hG.lv 5 (i : Int) 9 (by decide) _ _ _ ht5 _ (t5, n5) (apQ_no (apT_other (hG.yes i (by omega) (by omega)) (by decide)) (by decide)) (hG.ok.tk _ (List.mem_of_getElem? ht5)) w (HP.here hp cov)) (fun r90 h90 => ?_)
             simp only [List.cons_append, List.nil_append, List.append_nil, List.append_assoc]
             refine WL.back (mwL l0 ({ r31.1 with K := b25 } : MA) r90) ?_
             simp only [List.cons_append, List.nil_append, List.append_nil, List.append_assoc]
             have hG1 := hG.no h90.1 h90.2 ht5
             refine oas ?_
             refine nq ?_
             refine W.seq ?_
             by_cases c5 : i < 2
             · refine W.region ?_
               refine omv ?_
               refine omv ?_
               obtain ⟨p4, ht4⟩ := hG1.t4
               refine cgP _ rfl (fun w hp => ap_yes l0 ({ r31.1 with K := b25 } : MA) r90 hG1.ok 64 hG1.lv 4 (i : Int) 9 (by decide) p4 T n4 ht4 ⟨4, 8, false⟩ (hG1.yes i (by omega) (by omega)) rfl rfl (by omega) (take2_ok (by omega) (by omega) (by omega)).1 (by have := hG1.g; omega) (by have := hG1.sl; omega) w (HP.here hp cov)) (fun r93 h93 => ?_)
               simp only [List.cons_append, List.nil_append, List.append_nil, List.append_assoc]
               refine WL.back (mwL l0 ({ r31.1 with K := b25 } : MA) r93) ?_
               simp only [List.cons_append, List.nil_append, List.append_nil, List.append_assoc]
               obtain ⟨hG2, hO⟩ := hG1.took (by omega) (by omega) h93.1 h93.2
               obtain ⟨-, k2, k3⟩ := take2_ok (t := T) (n := n4) (now := 9) (by omega) (by omega) (by omega)
               rw [k2, k3] at hG2
               obtain ⟨p6, ht6⟩ := hG2.t4
               refine oas ?_
               refine nx ?_
               refine omv ?_
               refine omv ?_
               refine cgP _ rfl (fun w hp => ap_inl l0 ({ r31.1 with K := b25 } : MA) r93 hG2.ok 64 hG2.lv 4 (i : Int) 9 (by decide) p6 _ _ ht6 5 _ (apQ_no (apT_old hO rfl rfl) (by decide)) (hG2.ok.tk _ (List.mem_of_getElem? ht6)) w (HP.here hp cov)) (fun r96 h96 => ?_)
               simp only [List.cons_append, List.nil_append, List.append_nil, List.append_assoc]
               refine WL.back (mwL l0 ({ r31.1 with K := b25 } : MA) r96) ?_
               simp only [List.cons_append, List.nil_append, List.append_nil, List.append_assoc]
               have hG3 := hG2.no h96.1 h96.2 ht6
               refine oas ?_
               refine nx ?_
               refine omv ?_
               refine ov (v2 V_neq) ?_
               refine omv ?_
               refine oy rfl (by decide) ?_
               refine omv ?_
               refine oy rfl (by decide) ?_
               refine ov (v2 V_lss) ?_
               refine oy rfl (by decide) ?_
               refine omv ?_
               refine oy rfl (decide_eq_true (by omega)) ?_
               refine omv ?_
               refine oy rfl (decide_eq_true (by omega)) ?_
               refine ov (v2 V_neq) ?_
               refine oy rfl (decide_eq_true (by omega)) ?_
               refine omv ?_
               refine oy rfl (by decide) ?_
               refine omv ?_
               refine oy rfl (by decide) ?_
               refine ov (v2 V_neq) ?_
               refine oy rfl (decide_eq_true (by omega)) ?_
               refine ov (V_pick_f rfl (by decide) rfl) ?_
               refine oy rfl (by decide) ?_
               refine ov (V_pick_t rfl (decide_eq_true (by omega)) rfl) ?_
               refine ov (V_pick_f rfl (by decide) rfl) ?_
               refine omv ?_
               refine oy rfl (by decide) ?_
               refine omv ?_
               refine oy rfl (by decide) ?_
               refine ov (v2 V_geq) ?_
               refine oy rfl (by decide) ?_
               refine omv ?_
               refine on rfl (decide_eq_false (by omega)) ?_
               refine on rfl (decide_eq_false (by omega)) ?_
               refine on rfl (decide_eq_false (by omega)) ?_
               refine onu rfl ?_
               refine onu rfl ?_
               refine on rfl (decide_eq_false (by omega)) ?_
               refine oy rfl (by decide) ?_
               refine ov (V_pick_f rfl (decide_eq_false (by omega)) rfl) ?_
               refine ov (V_pick_f rfl (by decide) rfl) ?_
               refine nq ?_
               refine W.cond_false rfl rfl ?_
               refine W.skip ?_
               refine WQ.block_normal ?_
               refine WQ.then ?_
               refine W.region ?_
               refine omv ?_
               first | refine ov vaddN ?_ | refine ov vadd ?_
               refine oas ?_
               refine WL.nil ?_
               exact ag ((i + 1, r96, 9, n4 - 1)) [16, 0, 1, 2, 3, 6, 7, 8, 10, 11, 12, 55, 63] (by (try dsimp only); exact ⟨by omega, by rw [show min (i + 1) 2 = min i 2 + 1 by omega, show n4 - 1 = min 2 (n4 + (9 / 50 - T / 50)) - 1 by omega]; exact hG3, by omega, by omega⟩) (by (try dsimp only); omega) rfl cov
             · refine W.region ?_
               refine omv ?_
               refine omv ?_
               obtain ⟨p4, ht4⟩ := hG1.t4
               refine cgP _ rfl (fun w hp => ap_inl l0 ({ r31.1 with K := b25 } : MA) r90 hG1.ok 64 hG1.lv 4 (i : Int) 9 (by decide) p4 T n4 ht4 10 (9, 0) (ap10 (hG1.yes i (by omega) (by omega)) rfl rfl (by omega) (by omega) (by omega)) (by constructor <;> decide) w (HP.here hp cov)) (fun r93 h93 => ?_)
               simp only [List.cons_append, List.nil_append, List.append_nil, List.append_assoc]
               refine WL.back (mwL l0 ({ r31.1 with K := b25 } : MA) r93) ?_
               simp only [List.cons_append, List.nil_append, List.append_nil, List.append_assoc]
               have hG2 := hG1.rate h93.1 h93.2
               obtain ⟨p6, ht6⟩ := hG2.t4
               refine oas ?_
               refine nx ?_
               refine omv ?_
               refine omv ?_
               refine cgP _ rfl (fun w hp => ap_inl l0 ({ r31.1 with K := b25 } : MA) r93 hG2.ok 64 hG2.lv 4 (i : Int) 9 (by decide) p6 9 0 ht6 10 (9, 0) (ap10 (hG2.yes i (by omega) (by omega)) rfl rfl (by omega) (by omega) (by omega)) (by constructor <;> decide) w (HP.here hp cov)) (fun r96 h96 => ?_)
               simp only [List.cons_append, List.nil_append, List.append_nil, List.append_assoc]
               refine WL.back (mwL l0 ({ r31.1 with K := b25 } : MA) r96) ?_
               simp only [List.cons_append, List.nil_append, List.append_nil, List.append_assoc]
               have hG3 := (hG2.rate h96.1 h96.2).skip
               refine oas ?_
               refine nx ?_
               refine omv ?_
               refine ov (v2 V_neq) ?_
               refine omv ?_
               refine oy rfl (by decide) ?_
               refine omv ?_
               refine oy rfl (by decide) ?_
               refine ov (v2 V_lss) ?_
               refine oy rfl (by decide) ?_
               refine omv ?_
               refine on rfl (decide_eq_false (by omega)) ?_
               refine on rfl (decide_eq_false (by omega)) ?_
               refine on rfl (decide_eq_false (by omega)) ?_
               refine onu rfl ?_
               refine onu rfl ?_
               refine on rfl (decide_eq_false (by omega)) ?_
               refine oy rfl (by decide) ?_
               refine ov (V_pick_f rfl (decide_eq_false (by omega)) rfl) ?_
               refine ov (V_pick_f rfl (by decide) rfl) ?_
               refine omv ?_
               refine oy rfl rfl ?_
               refine omv ?_
               refine oy rfl rfl ?_
               refine ov (v2 V_geq) ?_
               refine oy rfl rfl ?_
               refine omv ?_
               refine oy rfl (decide_eq_true (by omega)) ?_
               refine omv ?_
               refine oy rfl (decide_eq_true (by omega)) ?_
               refine ov (v2 V_neq) ?_
               refine oy rfl (decide_eq_true (by omega)) ?_
               refine omv ?_
               refine oy rfl (by decide) ?_
               refine omv ?_
               refine oy rfl (by decide) ?_
               refine ov (v2 V_neq) ?_
               refine oy rfl (decide_eq_true (by omega)) ?_
               refine ov (V_pick_f rfl (by decide) rfl) ?_
               refine oy rfl rfl ?_
               refine ov (V_pick_t rfl (decide_eq_true (by omega)) rfl) ?_
               refine ov (V_pick_f rfl rfl rfl) ?_
               refine nq ?_
               refine W.cond_false rfl (by decide) ?_
               refine W.skip ?_
               refine WQ.block_normal ?_
               refine WQ.then ?_
               refine W.region ?_
               refine omv ?_
               first | refine ov vaddN ?_ | refine ov vadd ?_
               refine oas ?_
               refine WL.nil ?_
               exact ag ((i + 1, r96, 9, 0)) [16, 0, 1, 2, 3, 6, 7, 8, 10, 11, 12, 55, 63] (by (try dsimp only); exact ⟨by omega, by rw [show min (i + 1) 2 = min i 2 by omega]; exact hG3, by omega, by omega⟩) (by (try dsimp only); omega) rfl cov
           · refine W.exit ?_
             refine WQ.then_exit ?_
             refine WQ.then_exit ?_
             refine WQ.block_hit ?_
             refine WQ.then ?_
             refine W.seq ?_
             obtain rfl : m = i := by omega
             have hc9 : cnt x.S.m 4 9 = m - min m 2 := by rw [hG.cn 9, if_pos (cnB_8 (by omega))]
             refine W.region ?_
             refine omv ?_
             refine cgP (ι := Unit) (A := fun _ => True) (V := fun _ => .int .i64 (cnt x.S.m 4 9 : Nat)) (M := fun _ => mwL l0 ({ r31.1 with K := b25 } : MA) x) _ rfl (fun w hp => (count_w l0 ({ r31.1 with K := b25 } : MA) x hG.ok (by have := hG.sl; omega) 4 9 (by omega) w (HP.here hp cov)).mono fun e w' h => ⟨(), trivial, h⟩) (fun _ _ => ?_)
             simp only [List.cons_append, List.nil_append, List.append_nil, List.append_assoc]
             refine WL.back (mwL l0 ({ r31.1 with K := b25 } : MA) x) ?_
             simp only [List.cons_append, List.nil_append, List.append_nil, List.append_assoc]
             rw [hc9]
             refine oas ?_
             refine nq ?_
             refine W.seq ?_
             refine sr ?_
             refine omv ?_
             refine ov (v2 V_leq) ?_
             refine nq ?_
             refine W.cond_dec rfl (fun g3 => ?_) (fun g3 => ?_)
             · refine W.seq ?_
               refine W.region ?_
               refine omv ?_
               refine omv ?_
               refine oy rfl rfl ?_
               refine omv ?_
               refine oy rfl rfl ?_
               refine ov (v2 V_eql) ?_
               refine ov (V_pick_t rfl rfl rfl) ?_
               refine oas ?_
               refine nq ?_
               refine W.ret ?_
               refine WQ.then_ret ?_
               refine WQ.ret1 Tryz.results3 (.tmp rfl) ?_
               intro w' hp; exact ⟨by first | rfl | (simp; done) | (simp; omega), hp.forget⟩
             · refine W.skip ?_
               refine WQ.then ?_
               refine sr ?_
               refine oas ?_
               refine nq ?_
               refine W.seq ?_
               refine sr ?_
               refine oas ?_
               refine nq ?_
               refine W.block ?_
               -- LOOP 2
               refine W.pick (S' := [(21, _), (22, _), (0, _), (1, _), (2, _), (3, _), (6, _), (7, _), (8, _), (10, _), (11, _), (12, _), (16, _), (20, _), (55, _), (63, _), (85, _), (126, _)]) [21, 22, 0, 1, 2, 3, 6, 7, 8, 10, 11, 12, 16, 20, 55, 63, 85, 126] rfl ?_
               refine W.loopG (σ := Nat × Nat × MW × Int × Int) (fun ⟨i, qq, x, T, n4⟩ => (2 ≤ i ∧ i ≤ m) ∧ G2 l0 x m i (2 + qq) T n4 ∧ (0 ≤ T ∧ T ≤ 9 + wt) ∧ n4 + ((9 + (wt : Int)) / 50 - T / 50) = (9 + (wt : Int)) / 50 - qq ∧ qq = min (i - 2) ((9 + wt) / 50)) (fun ⟨i, qq, x, T, n4⟩ => [(21, .int .i64 (qq : Nat)), (22, .int .i64 (i : Nat))]) (fun ⟨i, qq, x, T, n4⟩ => []) [(b3, _)] (fun ⟨i, qq, x, T, n4⟩ => mwL l0 ({ r31.1 with K := b25 } : MA) x) (fun ⟨i, qq, x, T, n4⟩ => m - i) (2, 0, x, T, n4) rfl cov ⟨by omega, by rw [show 2 + 0 = min m 2 by omega]; exact ⟨hG.ok, hG.lv, hG.g, hG.yes, hG.cn, hG.sl, hG.t5, hG.t4⟩, by omega, by omega, by omega⟩ ?_
               rintro ⟨i, qq, x, T, n4⟩ ⟨hi, hG, hT, hn4, hqq⟩; dsimp only at hi hG hT hn4 hqq ⊢
               refine W.seq ?_
               refine sr ?_
               refine omv ?_
               refine omv ?_
               refine ov (v2 V_lss) ?_
               refine nq ?_
               refine W.cond_dec rfl (fun g4 => ?_) (fun g4 => ?_)
               · refine W.skip ?_
                 refine WQ.then ?_
                 refine W.seq ?_
                 refine W.block ?_
                 refine W.seq ?_
                 by_cases c6 : i - 2 < (9 + wt) / 50
                 · refine W.region ?_
                   refine omv ?_
                   refine omv ?_
                   refine omv ?_
                   first | refine ov vaddN ?_ | refine ov vadd ?_
                   obtain ⟨p4, ht4⟩ := hG.t4
                   refine cgP _ rfl (fun w hp => ap_yes l0 ({ r31.1 with K := b25 } : MA) x hG.ok 64 hG.lv 4 (i : Int) (9 + (wt : Int)) (by decide) p4 T n4 ht4 ⟨4, 8, false⟩ (hG.yes i (by omega) (by omega)) rfl rfl (by omega) (take2_ok (by omega) (by omega) (by omega)).1 (by have := hG.g; omega) (by have := hG.sl; omega) w (HP.here hp cov)) (fun r141 h141 => ?_)
                   simp only [List.cons_append, List.nil_append, List.append_nil, List.append_assoc]
                   refine WL.back (mwL l0 ({ r31.1 with K := b25 } : MA) r141) ?_
                   simp only [List.cons_append, List.nil_append, List.append_nil, List.append_assoc]
                   obtain ⟨hG2, hO⟩ := hG.took (by omega) (by omega) h141.1 h141.2
                   obtain ⟨-, k2, k3⟩ := take2_ok (t := T) (n := n4) (now := (9 + (wt : Int))) (by omega) (by omega) (by omega)
                   rw [k2, k3] at hG2
                   refine ov (v2 V_eql) ?_
                   refine nq ?_
                   refine W.cond_true rfl (by decide) ?_
                   refine W.region ?_
                   refine omv ?_
                   first | refine ov vaddN ?_ | refine ov vadd ?_
                   refine oas ?_
                   refine WL.nil ?_
                   refine WQ.block_normal ?_
                   refine WQ.then ?_
                   refine W.region ?_
                   refine omv ?_
                   first | refine ov vaddN ?_ | refine ov vadd ?_
                   refine oas ?_
                   refine WL.nil ?_
                   exact ag ((i + 1, qq + 1, r141, (9 + (wt : Int)), min 2 (n4 + ((9 + (wt : Int)) / 50 - T / 50)) - 1)) [21, 22, 0, 1, 2, 3, 6, 7, 8, 10, 11, 12, 16, 20, 55, 63, 85, 126] (by (try dsimp only); exact ⟨by omega, hG2, by omega, by omega, by omega⟩) (by (try dsimp only); omega) rfl cov
                 · refine W.region ?_
                   refine omv ?_
                   refine omv ?_
                   refine omv ?_
                   first | refine ov vaddN ?_ | refine ov vadd ?_
                   obtain ⟨p4, ht4⟩ := hG.t4
                   refine cgP _ rfl (fun w hp => ap_inl l0 ({ r31.1 with K := b25 } : MA) x hG.ok 64 hG.lv 4 (i : Int) (9 + (wt : Int)) (by decide) p4 T n4 ht4 10 ((9 + (wt : Int)), 0) (ap10 (hG.yes i (by omega) (by omega)) rfl rfl (by omega) (by omega) (by omega)) (by constructor <;> first | decide | (dsimp only; omega)) w (HP.here hp cov)) (fun r141 h141 => ?_)
                   simp only [List.cons_append, List.nil_append, List.append_nil, List.append_assoc]
                   refine WL.back (mwL l0 ({ r31.1 with K := b25 } : MA) r141) ?_
                   simp only [List.cons_append, List.nil_append, List.append_nil, List.append_assoc]
                   have hG2 := (hG.rate h141.1 h141.2).skip
                   refine ov (v2 V_eql) ?_
                   refine nq ?_
                   refine W.cond_false rfl (by decide) ?_
                   refine W.skip ?_
                   refine WQ.block_normal ?_
                   refine WQ.then ?_
                   refine W.region ?_
                   refine omv ?_
                   first | refine ov vaddN ?_ | refine ov vadd ?_
                   refine oas ?_
                   refine WL.nil ?_
                   exact ag ((i + 1, qq, r141, (9 + (wt : Int)), 0)) [21, 22, 0, 1, 2, 3, 6, 7, 8, 10, 11, 12, 16, 20, 55, 63, 85, 126] (by (try dsimp only); exact ⟨by omega, hG2, by omega, by omega, by omega⟩) (by (try dsimp only); omega) rfl cov
               · refine W.exit ?_
                 refine WQ.then_exit ?_
                 refine WQ.then_exit ?_
                 refine WQ.block_hit ?_
                 refine WQ.then ?_
                 refine W.seq ?_
                 obtain rfl : m = i := by omega
                 have hc10 : cnt x.S.m 4 (9 + (wt : Int)) = m - (2 + qq) := by rw [hG.cn (9 + (wt : Int)), if_pos (cnB_8 (by omega))]
                 refine W.region ?_
                 refine omv ?_
                 refine omv ?_
                 refine oy rfl rfl ?_
                 refine omv ?_
                 refine oy rfl rfl ?_
                 refine omv ?_
                 refine oy rfl rfl ?_
                 first | refine ov vsubN ?_ | refine ov vsub ?_
                 refine oy rfl rfl ?_
                 refine ov (v2 V_eql) ?_
                 refine ov (V_pick_t rfl rfl rfl) ?_
                 refine omv ?_
                 refine oy rfl (decide_eq_true (by omega)) ?_
                 refine omv ?_
                 refine oy rfl (decide_eq_true (by omega)) ?_
                 refine omv ?_
                 refine oy rfl (decide_eq_true (by omega)) ?_
                 first | refine ov vsubN ?_ | refine ov vsub ?_
                 refine oy rfl (decide_eq_true (by omega)) ?_
                 refine omv ?_
                 refine oy rfl (decide_eq_true (by omega)) ?_
                 first | refine ov vaddN ?_ | refine ov vadd ?_
                 refine oy rfl (decide_eq_true (by omega)) ?_
                 first | refine ov vquo ?_ | refine ov (V_quo rfl rfl (by omega)) ?_
                 refine oy rfl (decide_eq_true (by omega)) ?_
                 refine ov (V_min rfl) ?_
                 refine oy rfl (decide_eq_true (by omega)) ?_
                 refine ov (v2 V_eql) ?_
                 refine ov (V_pick_t rfl (decide_eq_true (by omega)) rfl) ?_
                 refine omv ?_
                 refine oy rfl (decide_eq_true (by omega)) ?_
                 refine omv ?_
                 refine oy rfl (decide_eq_true (by omega)) ?_
                 refine omv ?_
                 refine oy rfl (decide_eq_true (by omega)) ?_
                 first | refine ov vaddN ?_ | refine ov vadd ?_
                 refine oy rfl (decide_eq_true (by omega)) ?_
                 refine cgP (ι := Unit) (A := fun _ => True) (V := fun _ => .int .i64 (cnt x.S.m 4 (9 + (wt : Int)) : Nat)) (M := fun _ => mwL l0 ({ r31.1 with K := b25 } : MA) x) _ rfl (fun w hp => (count_w l0 ({ r31.1 with K := b25 } : MA) x hG.ok (by have := hG.sl; omega) 4 (9 + (wt : Int)) (by omega) w (HP.here hp cov)).mono fun e w' h => ⟨(), trivial, h⟩) (fun _ _ => ?_)
                 simp only [List.cons_append, List.nil_append, List.append_nil, List.append_assoc]
                 refine WL.back (mwL l0 ({ r31.1 with K := b25 } : MA) x) ?_
                 simp only [List.cons_append, List.nil_append, List.append_nil, List.append_assoc]
                 rw [hc10]
                 refine oy rfl (decide_eq_true (by omega)) ?_
                 refine omv ?_
                 refine oy rfl (decide_eq_true (by omega)) ?_
                 refine omv ?_
                 refine oy rfl (decide_eq_true (by omega)) ?_
                 first | refine ov vsubN ?_ | refine ov vsub ?_
                 refine oy rfl (decide_eq_true (by omega)) ?_
                 refine ov (v2 V_eql) ?_
                 refine ov (V_pick_t rfl (decide_eq_true (by omega)) rfl) ?_
                 refine oas ?_
                 refine nq ?_
                 refine W.ret ?_
                 refine WQ.ret1 Tryz.results3 (.tmp rfl) ?_
                 intro w' hp; exact ⟨by first | rfl | (simp; done) | (simp; omega), hp.forget⟩

end Go.Proofs.YtmeckbjinmgbbaaGreat