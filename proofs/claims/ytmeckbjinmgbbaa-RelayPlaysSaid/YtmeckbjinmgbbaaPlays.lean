/- RelayPlays: its walk. -/
import Derived.Test.YtmeckbjinmgbbaaMW
set_option linter.unusedVariables false
set_option linter.unusedSimpArgs false

namespace Go.Proofs.Ytmeckbjinmgbbaa
open Go.X
structure P3 (root : List Int) (i : Nat) (qs : List (Option PAcc)) (m : List Ent) (rs : List (Option PAcc)) : Prop where
  q : QOK POK i qs
  g : Good root m
  r : QOK AOK i rs
  e : absO qs = absO rs
theorem P3.nil {root : List Int} : P3 root 0 (List.replicate 8 none) [] (List.replicate 8 none) := ⟨QOK.new, Good.nil, QOK.new, rfl⟩
theorem P3.next {root : List Int} {i : Nat} {r : List (Option PAcc) × List Ent × Nat × List (Option PAcc)} (h : QOK POK ((i : Int) + 1) r.1 ∧ Good root r.2.1 ∧ QOK AOK ((i : Int) + 1) r.2.2.2 ∧ absO r.1 = absO r.2.2.2) : P3 root (i + 1) r.1 r.2.1 r.2.2.2 := ⟨h.1, h.2.1, h.2.2.1, h.2.2.2⟩

set_option maxRecDepth 8000 in
set_option maxHeartbeats 4000000 in
theorem relayPlays_calls (l0 : List Int) (e0 : l0.length = 32) (hb0 : bytes l0) (a1 : Int) (A : Option Addr) (n cap : Nat) (l : List OpR) (w0 : World) (hs : SrW w0 106 A n (l.flatMap OpR.c)) (hl : l.length = n) (hok : ∀ o ∈ l, o.OK w0) (hn2 : n ≤ 9223372036854775807) :
    Calls Try.prog 9 [AG [(32, iv .u8 l0)], .int .i64 a1, .slice A n cap].toArray w0 fun e w' => e = .returned (.bool true) ∧ HP w0 w' [] [] := by
 refine calls_of_W Try.func9 rfl Try.ntmps9 rfl rfl (HP.refl w0 []) ?_
 refine sr ?_
 refine obxa (fun b3 => ?_)
 refine oas ?_
 refine nx ?_
 refine cp rfl (fun w hp => awake20_calls w) ?_
 refine oas ?_
 refine nq ?_
 refine W.seq ?_
 by_cases hti : 1 ≤ a1 ∧ a1 ≤ 1000000
 · refine W.region ?_
   refine ov (vlda 32) ?_
   refine omv ?_
   refine cg rfl (fun w hp => new20_calls l0 a1 e0 hti w) (fun b24 h24 => ?_)
   refine omv ?_
   refine ov vex ?_
   refine ov vex ?_
   refine oas ?_
   refine oas ?_
   refine nq ?_
   refine W.seq ?_
   simp only [List.cons_append, List.nil_append, List.append_nil, List.append_assoc]
   first | refine W.back (stpL b24.2 a1 l0 [] 0) ?_ | skip
   try simp only [List.cons_append, List.nil_append, List.append_nil, List.append_assoc]
   refine W.region ?_
   refine ov (vlda 32) ?_
   refine omv ?_
   refine cg rfl (fun w hp => rnew20_calls l0 a1 e0 hti w) (fun b30 h30 => ?_)
   refine omv ?_
   refine ov vex ?_
   refine ov vex ?_
   refine oas ?_
   refine oas ?_
   refine nq ?_
   refine W.seq ?_
   refine sr ?_
   refine omv ?_
   refine omv ?_
   refine ov (v2 V_neq) ?_
   refine omv ?_
   refine oy rfl rfl ?_
   refine omv ?_
   refine oy rfl rfl ?_
   refine ov (V_eqlP (by kernel_rfl) rfl rfl) ?_
   refine oy rfl rfl ?_
   refine omv ?_
   refine oy rfl rfl ?_
   refine ov (V_eqlP (by kernel_rfl) rfl rfl) ?_
   refine oy rfl rfl ?_
   refine ov (V_neqB (by kernel_rfl) rfl rfl) ?_
   refine ov (V_pick_f rfl rfl rfl) ?_
   refine nq ?_
   refine W.cond_false rfl rfl ?_
   refine W.skip ?_
   refine WQ.then ?_
   refine W.seq ?_
   refine sr ?_
   refine oas ?_
   refine nq ?_
   refine W.block ?_
   -- LOOP 0
   refine W.pick (S' := [(12, _), (0, _), (1, _), (2, _), (3, _), (6, _), (7, _), (8, _), (9, _), (10, _), (11, _), (42, _)]) [12, 0, 1, 2, 3, 6, 7, 8, 9, 10, 11, 42] rfl ?_
   refine W.loopG (σ := Nat × List (Option PAcc) × List Ent × Nat × List (Option PAcc)) (fun ⟨i, qs, m, ck, rs⟩ => (i ≤ n ∧ i ≤ 60) ∧ P3 l0 i qs m rs) (fun ⟨i, qs, m, ck, rs⟩ => [(12, .int .i64 (i : Nat))]) (fun ⟨i, qs, m, ck, rs⟩ => [(b24.1, .cells (relS b24.2.r (psO qs)) 110), (b30, .cells (rlS l0 a1 (psO rs)) 130)]) [(b3, _)] (fun ⟨i, qs, m, ck, rs⟩ => stpL b24.2 a1 l0 m ck ++ (accs accP qs ++ accs accR rs)) (fun ⟨i, qs, m, ck, rs⟩ => n - i) (0, List.replicate 8 none, [], 0, List.replicate 8 none) rfl (by simp only [accs, fo, List.replicate, List.flatMap_cons, List.flatMap_nil, List.append_nil, List.nil_append]; exact cov) ⟨⟨Nat.zero_le _, Nat.zero_le _⟩, P3.nil⟩ ?_
   rintro ⟨i, qs, m, ck, rs⟩ ⟨hi, hP⟩; dsimp only at hi hP ⊢
   refine W.seq ?_
   refine sr ?_
   refine omv ?_
   refine omv ?_
   refine ov vlenS ?_
   refine ov (v2 V_lss) ?_
   refine omv ?_
   refine WL.splitD rfl (fun g1 => ?_) (fun g1 => ?_)
   · refine oy rfl (decide_eq_true g1) ?_
     refine omv ?_
     refine oy rfl (decide_eq_true g1) ?_
     refine ov (v2 V_lss) ?_
     refine ov (V_pick_td rfl g1 rfl) ?_
     refine omv ?_
     refine WL.splitD rfl (fun g2 => ?_) (fun g2 => ?_)
     · refine oy rfl (decide_eq_true g2) ?_
       refine omv ?_
       refine oy rfl (decide_eq_true g2) ?_
       refine ov (V_neqP (by kernel_rfl) rfl rfl) ?_
       refine ov (V_pick_td rfl g2 rfl) ?_
       refine nq ?_
       refine W.cond_true rfl rfl ?_
       refine W.skip ?_
       refine WQ.then ?_
       refine W.seq ?_
       refine W.block ?_
       refine W.seq ?_
       obtain ⟨bA, qA, rfl⟩ := hs.one'.hasN (by omega)
       obtain ⟨oo, hoi⟩ : ∃ o, l[i]? = some o := ⟨_, List.getElem?_eq_getElem (by omega)⟩
       have ho := hok oo (List.mem_of_getElem? hoi)
       obtain ⟨od, onum, oid, onow, ⟨ofr, oto, ocm, opu, opr, onn, obd⟩, oA, on_, ocap, ob, otg, okA, okn, okc, oks⟩ := oo
       have hbd := ho.e.body
       dsimp only at hbd
       subst hbd
       have hec : ocm.length = 32 := ho.e.c
       have hep : opu.length = 32 := ho.e.p
       have htl : otg.length = 32 := ho.tl
       have hos := ho.s
       have hoks := ho.ks
       have hob := ho.e.big
       have hkc := ho.kc
       dsimp only at hos hoks hob hkc
       refine W.region ?_
       refine omv ?_
       refine omv ?_
       refine ov (viO 106) ?_
       refine ov (vldOAs' (ds := [(1, [.int .i64 od]), (1, [.int .i64 onum]), (1, [.int .i64 oid]), (1, [.int .i64 onow]), (1, [.int .i64 ofr]), (1, [.int .i64 oto]), (32, iv .u8 ocm), (32, iv .u8 opu), (1, [.int .i64 opr]), (1, [.int .i64 onn]), (1, [.slice oA on_ ocap]), (32, iv .u8 otg), (1, [.slice okA okn okc])]) 106 i (fun x hx => (hok x hx).len) (fun w hp => hs.old0 w hp) hoi rfl) ?_
       refine oal [(1, [.int .i64 0]), (1, [.int .i64 0]), (1, [.int .i64 0]), (1, [.int .i64 0]), (1, [.int .i64 0]), (1, [.int .i64 0]), (32, List.replicate 32 (.int .u8 0)), (32, List.replicate 32 (.int .u8 0)), (1, [.int .i64 0]), (1, [.int .i64 0]), (1, [.slice none 0 0]), (32, List.replicate 32 (.int .u8 0)), (1, [.slice none 0 0])] (fun b13 => ?_)
       refine osta 106 ?_
       refine nq ?_
       refine W.seq ?_
       refine sr ?_
       refine ov (vfa0 4 69) ?_
       refine ov (vfa 68 1) ?_
       refine ov vld ?_
       refine ov vlenS ?_
       refine ov (v2 V_gtr) ?_
       refine omv ?_
       refine WL.splitD rfl (fun g3 => ?_) (fun g3 => ?_)
       · refine on rfl (decide_eq_true g3) ?_
         refine on rfl (decide_eq_true g3) ?_
         refine on rfl (decide_eq_true g3) ?_
         refine on rfl (decide_eq_true g3) ?_
         refine ov (V_pick_td rfl g3 rfl) ?_
         refine nq ?_
         refine W.cond_true rfl rfl ?_
         refine sr ?_
         refine omv ?_
         refine oas ?_
         refine nq ?_
         refine W.ret ?_
         refine WQ.then_ret ?_
         refine WQ.block_ret ?_
         refine WQ.then_ret ?_
         refine WQ.then_ret ?_
         refine WQ.block_ret ?_
         refine WQ.then_ret ?_
         refine WQ.ret1 Try.results9 (.tmp rfl) ?_
         intro w' hp; exact ⟨rfl, hp.forget⟩
       · refine oy rfl (decide_eq_false g3) ?_
         refine ov (vfa0 105 1) ?_
         refine oy rfl (decide_eq_false g3) ?_
         refine ov vld ?_
         refine oy rfl (decide_eq_false g3) ?_
         refine ov vlenS ?_
         refine oy rfl (decide_eq_false g3) ?_
         refine ov (v2 V_gtr) ?_
         refine ov (V_pick_fd rfl g3 rfl) ?_
         refine nq ?_
         refine W.cond_dec rfl (fun g4 => ?_) (fun g4 => ?_)
         · refine W.seq ?_
           refine W.region ?_
           refine omv ?_
           refine oas ?_
           refine nq ?_
           refine W.ret ?_
           refine WQ.then_ret ?_
           refine WQ.block_ret ?_
           refine WQ.then_ret ?_
           refine WQ.then_ret ?_
           refine WQ.block_ret ?_
           refine WQ.then_ret ?_
           refine WQ.ret1 Try.results9 (.tmp rfl) ?_
           intro w' hp; exact ⟨rfl, hp.forget⟩
         · refine W.skip ?_
           refine WQ.then ?_
           refine W.seq ?_
           refine sr ?_
           refine omv ?_
           refine omv ?_
           refine ov (vlda 106) ?_
           refine cgP _ rfl (fun w hp => do20_calls b24.1 b24.2 a1 l0 hti.1 e0 hb0 qs i hP.q m ck hP.g b30 rs hP.r hP.e (⟨od, onum, oid, onow, ⟨ofr, oto, ocm, opu, opr, onn, .slice oA on_ ocap⟩, oA, on_, ocap, ob, otg, okA, okn, okc, oks⟩ : OpR) ho.e ho.tl ho.tb ho.kl ho.kc.1 ho.k32 (by omega) (by omega) w (HP.here hp cov) (fun w1 M h1 => Sr.pastP hp h1 (hs := by exact hos.old0)) (fun w1 M h1 => Sr.pastP hp h1 (hs := by exact hoks.old0))) (fun r76 h76 => ?_)
           simp only [List.cons_append, List.nil_append, List.append_nil, List.append_assoc]
           refine WL.back (stpL b24.2 a1 l0 r76.2.1 r76.2.2.1) ?_
           simp only [List.cons_append, List.nil_append, List.append_nil, List.append_assoc]
           refine WL.back (accs accP r76.1) ?_
           simp only [List.cons_append, List.nil_append, List.append_nil, List.append_assoc]
           refine WL.back (accs accR r76.2.2.2) ?_
           simp only [List.cons_append, List.nil_append, List.append_nil, List.append_assoc]
           have hN := P3.next h76
           refine ov vnot ?_
           refine nq ?_
           refine W.cond_false rfl rfl ?_
           refine W.skip ?_
           refine WQ.then ?_
           refine sr ?_
           refine oas ?_
           refine nq ?_
           refine W.block ?_
           -- LOOP 1
           refine W.pick (S' := [(14, _), (0, _), (1, _), (2, _), (3, _), (6, _), (7, _), (8, _), (9, _), (10, _), (11, _), (12, _), (13, _), (42, _), (54, _), (71, _), (77, _)]) [14, 0, 1, 2, 3, 6, 7, 8, 9, 10, 11, 12, 13, 42, 54, 71, 77] rfl ?_
           refine W.loopG (σ := Nat) (fun q => q ≤ 10) (fun q => [(14, .int .i64 ((q : Int) - 1))]) (fun q => []) [(b13, _), (b24.1, _), (b30, _), (b3, _)] (fun q => stpL b24.2 a1 l0 r76.2.1 r76.2.2.1 ++ (accs accP r76.1 ++ accs accR r76.2.2.2)) (fun q => 10 - q) 0 rfl cov (Nat.zero_le _) ?_
           rintro q hi
           refine W.seq ?_
           refine sr ?_
           refine omv ?_
           refine ov (v2 V_lss) ?_
           refine nq ?_
           refine W.cond_dec rfl (fun g5 => ?_) (fun g5 => ?_)
           · refine W.skip ?_
             refine WQ.then ?_
             refine W.seq ?_
             refine W.block ?_
             refine sr ?_
             refine omv ?_
             refine omv ?_
             refine cgP _ rfl (fun w hp => mails20W b24.1 b24.2 r76.1 ((i + 1 : Nat) : Int) hN.q ((q : Int) - 1) w (HP.here hp cov)) (fun r85 h85 => ?_)
             simp only [List.cons_append, List.nil_append, List.append_nil, List.append_assoc]
             refine WL.back (accs accP r76.1) ?_
             simp only [List.cons_append, List.nil_append, List.append_nil, List.append_assoc]
             refine WL.back (gLM 138 r85.1 r85.2.length (r85.2.flatMap mlV) 68) ?_
             simp only [List.cons_append, List.nil_append, List.append_nil, List.append_assoc]
             refine WL.back (r85.2.flatMap mbL) ?_
             simp only [List.cons_append, List.nil_append, List.append_nil, List.append_assoc]
             refine omv ?_
             refine ov vex ?_
             refine ov vex ?_
             refine oas ?_
             refine oas ?_
             refine nx ?_
             refine omv ?_
             refine omv ?_
             refine cgP _ rfl (fun w hp => rmails20W l0 e0 a1 b30 r76.2.2.2 ((i + 1 : Nat) : Int) hN.r ((q : Int) - 1) w (HP.here hp cov)) (fun r91 h91 => ?_)
             simp only [List.cons_append, List.nil_append, List.append_nil, List.append_assoc]
             refine WL.back (accs accR r76.2.2.2) ?_
             simp only [List.cons_append, List.nil_append, List.append_nil, List.append_assoc]
             obtain ⟨rk1, rk2, rk3⟩ := rmO_ok hN.r (n := (q : Int) - 1)
             rw [← hN.e]
             refine omv ?_
             refine ov vex ?_
             refine ov vex ?_
             refine oas ?_
             refine oas ?_
             refine nx ?_
             refine omv ?_
             refine omv ?_
             refine cp rfl (fun w hp => lmails_calls r85.1 (rmO r76.2.2.2 ((q : Int) - 1)).1 r85.2 (rmO r76.2.2.2 ((q : Int) - 1)).2 h85.2.1 h85.2.2 rk1 rk2 (by rw [h85.1, rk3, hN.e]) w (MlsAt.two (t := 68) hp h85.2.2 h85.2.1.1) (MlsAt.acc hN.r _ hp)) ?_
             refine oas ?_
             refine nx ?_
             refine omv ?_
             refine ov vnot ?_
             refine omv ?_
             refine oy rfl rfl ?_
             refine omv ?_
             refine oy rfl rfl ?_
             refine omv ?_
             refine oy rfl rfl ?_
             refine ov (v2 V_neq) ?_
             refine ov (V_pick_f rfl rfl rfl) ?_
             refine nq ?_
             refine W.cond_false rfl (by simp) ?_
             refine W.skip ?_
             refine WQ.block_normal ?_
             refine WQ.then ?_
             refine W.region ?_
             refine omv ?_
             first | refine ov vaddN ?_ | refine ov vadd ?_
             refine oas ?_
             refine WL.nil ?_
             rw [show ((q : Int) - 1) + 1 = ((q + 1 : Nat) : Int) - 1 by omega]
             exact ag (q + 1) [14, 0, 1, 2, 3, 6, 7, 8, 9, 10, 11, 12, 13, 42, 54, 71, 77] (by (try dsimp only); exact (by omega)) (by (try dsimp only); omega) rfl cov
           · refine W.exit ?_
             refine WQ.then_exit ?_
             refine WQ.then_exit ?_
             refine WQ.block_hit ?_
             refine WQ.block_normal ?_
             refine WQ.then ?_
             refine W.region ?_
             refine omv ?_
             first | refine ov vaddN ?_ | refine ov vadd ?_
             refine oas ?_
             refine WL.nil ?_
             exact ag ((i + 1, r76.1, r76.2.1, r76.2.2.1, r76.2.2.2)) [12, 0, 1, 2, 3, 6, 7, 8, 9, 10, 11, 42] (by (try dsimp only); exact ⟨by omega, hN⟩) (by (try dsimp only); omega) rfl cov
     · refine on rfl (decide_eq_false g2) ?_
       refine on rfl (decide_eq_false g2) ?_
       refine ov (V_pick_fd rfl g2 rfl) ?_
       refine nq ?_
       refine W.cond_false rfl rfl ?_
       refine W.exit ?_
       refine WQ.then_exit ?_
       refine WQ.then_exit ?_
       refine WQ.block_hit ?_
       refine WQ.then ?_
       refine sr ?_
       refine omv ?_
       refine oas ?_
       refine nq ?_
       refine W.ret ?_
       refine WQ.ret1 Try.results9 (.tmp rfl) ?_
       intro w' hp; exact ⟨rfl, hp.forget⟩
   · refine on rfl (decide_eq_false g1) ?_
     refine on rfl (decide_eq_false g1) ?_
     refine ov (V_pick_fd rfl g1 rfl) ?_
     refine omv ?_
     refine on rfl rfl ?_
     refine on rfl rfl ?_
     refine ov (V_pick_f rfl rfl rfl) ?_
     refine nq ?_
     refine W.cond_false rfl rfl ?_
     refine W.exit ?_
     refine WQ.then_exit ?_
     refine WQ.then_exit ?_
     refine WQ.block_hit ?_
     refine WQ.then ?_
     refine sr ?_
     refine omv ?_
     refine oas ?_
     refine nq ?_
     refine W.ret ?_
     refine WQ.ret1 Try.results9 (.tmp rfl) ?_
     intro w' hp; exact ⟨rfl, hp.forget⟩
 · refine W.region ?_
   refine ov (vlda 32) ?_
   refine omv ?_
   refine cp rfl (fun w hp => new20_bad l0 a1 e0 hti w) ?_
   refine omv ?_
   refine ov vex ?_
   refine ov vex ?_
   refine oas ?_
   refine oas ?_
   refine nq ?_
   refine W.seq ?_
   simp only [List.cons_append, List.nil_append, List.append_nil, List.append_assoc]
   first | refine W.back (stpL b24.2 a1 l0 [] 0) ?_ | skip
   try simp only [List.cons_append, List.nil_append, List.append_nil, List.append_assoc]
   refine W.region ?_
   refine ov (vlda 32) ?_
   refine omv ?_
   refine cp rfl (fun w hp => rnew20_bad l0 a1 e0 hti w) ?_
   refine omv ?_
   refine ov vex ?_
   refine ov vex ?_
   refine oas ?_
   refine oas ?_
   refine nq ?_
   refine W.seq ?_
   refine sr ?_
   refine omv ?_
   refine omv ?_
   refine ov (v2 V_neq) ?_
   refine omv ?_
   refine oy rfl rfl ?_
   refine omv ?_
   refine oy rfl rfl ?_
   refine ov (V_eqlP (by kernel_rfl) rfl rfl) ?_
   refine oy rfl rfl ?_
   refine omv ?_
   refine oy rfl rfl ?_
   refine ov (V_eqlP (by kernel_rfl) rfl rfl) ?_
   refine oy rfl rfl ?_
   refine ov (V_neqB (by kernel_rfl) rfl rfl) ?_
   refine ov (V_pick_f rfl rfl rfl) ?_
   refine nq ?_
   refine W.cond_false rfl rfl ?_
   refine W.skip ?_
   refine WQ.then ?_
   refine W.seq ?_
   refine sr ?_
   refine oas ?_
   refine nq ?_
   refine W.block ?_
   -- LOOP 2
   refine W.pick (S' := [(12, _), (0, _), (1, _), (2, _), (3, _), (6, _), (7, _), (8, _), (9, _), (10, _), (11, _), (42, _)]) [12, 0, 1, 2, 3, 6, 7, 8, 9, 10, 11, 42] rfl ?_
   refine W.loopG (σ := Nat) (fun i => True) (fun i => [(12, .int .i64 (i : Nat))]) (fun i => []) [(b3, _)] (fun i => []) (fun i => 0) 0 rfl cov trivial ?_
   rintro i _
   refine W.seq ?_
   refine sr ?_
   refine omv ?_
   refine omv ?_
   refine ov vlenS ?_
   refine ov (v2 V_lss) ?_
   refine omv ?_
   refine WL.splitD rfl (fun g6 => ?_) (fun g6 => ?_)
   · refine oy rfl (decide_eq_true g6) ?_
     refine omv ?_
     refine oy rfl (decide_eq_true g6) ?_
     refine ov (v2 V_lss) ?_
     refine ov (V_pick_td rfl g6 rfl) ?_
     refine omv ?_
     refine WL.splitD rfl (fun g7 => ?_) (fun g7 => ?_)
     · refine oy rfl (decide_eq_true g7) ?_
       refine omv ?_
       refine oy rfl (decide_eq_true g7) ?_
       refine ov (V_neqP (by kernel_rfl) rfl rfl) ?_
       refine ov (V_pick_td rfl g7 rfl) ?_
       refine nq ?_
       refine W.cond_false rfl rfl ?_
       refine W.exit ?_
       refine WQ.then_exit ?_
       refine WQ.then_exit ?_
       refine WQ.block_hit ?_
       refine WQ.then ?_
       refine sr ?_
       refine omv ?_
       refine oas ?_
       refine nq ?_
       refine W.ret ?_
       refine WQ.ret1 Try.results9 (.tmp rfl) ?_
       intro w' hp; exact ⟨rfl, hp.forget⟩
     · refine on rfl (decide_eq_false g7) ?_
       refine on rfl (decide_eq_false g7) ?_
       refine ov (V_pick_fd rfl g7 rfl) ?_
       refine nq ?_
       refine W.cond_false rfl rfl ?_
       refine W.exit ?_
       refine WQ.then_exit ?_
       refine WQ.then_exit ?_
       refine WQ.block_hit ?_
       refine WQ.then ?_
       refine sr ?_
       refine omv ?_
       refine oas ?_
       refine nq ?_
       refine W.ret ?_
       refine WQ.ret1 Try.results9 (.tmp rfl) ?_
       intro w' hp; exact ⟨rfl, hp.forget⟩
   · refine on rfl (decide_eq_false g6) ?_
     refine on rfl (decide_eq_false g6) ?_
     refine ov (V_pick_fd rfl g6 rfl) ?_
     refine omv ?_
     refine on rfl rfl ?_
     refine on rfl rfl ?_
     refine ov (V_pick_f rfl rfl rfl) ?_
     refine nq ?_
     refine W.cond_false rfl rfl ?_
     refine W.exit ?_
     refine WQ.then_exit ?_
     refine WQ.then_exit ?_
     refine WQ.block_hit ?_
     refine WQ.then ?_
     refine sr ?_
     refine omv ?_
     refine oas ?_
     refine nq ?_
     refine W.ret ?_
     refine WQ.ret1 Try.results9 (.tmp rfl) ?_
     intro w' hp; exact ⟨rfl, hp.forget⟩

end Go.Proofs.Ytmeckbjinmgbbaa