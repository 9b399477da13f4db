/- A relay: an envelope sent by one that is there to one that is there. -/
import Derived.Test.YtmeckbjinmgbbaaSend2
set_option linter.unusedVariables false
set_option linter.unusedSimpArgs false

namespace Go.Proofs.Ytmeckbjinmgbbaa
open Go.X

theorem send20_calls (b : Nat) (R : Rel) (ticks : Int) (root : List Int) (hti : 1 ≤ ticks) (hrl : root.length = 32) (hrb : bytes root) (ps : List (Option Nat)) (h8 : ps.length = 8) (m : List Ent) (ck : Nat) (hg : Good root m) (e : EnvS) (A : Option Addr) (n cap : Nat) (l : List Int) (he : EnOK e A n cap l) (hh : heB e n = true) (tag : List Int) (htl : tag.length = 32) (htb : bytes tag) (now : Int) (hok : ¬ (e.fr = e.to ∨ now < 0 ∨ 1000000 < now)) (a c : PAcc) (hpa : POK a) (hpc : POK c) (hfr : ofP ps e.fr = some a.p) (hto : ofP ps e.to = some c.p) (hmany : c.many ≤ 1000000) (w : World) (hp0 : HP w w (((b, .cells (relS R.r ps) 110) :: (stpL R ticks root m ck ++ (accP a ++ accP c)) : List (Nat × Blk)).map (·.1)) ((b, .cells (relS R.r ps) 110) :: (stpL R ticks root m ck ++ (accP a ++ accP c)) : List (Nat × Blk))) (hs : ∀ w' M, HP w w' (((b, .cells (relS R.r ps) 110) :: (stpL R ticks root m ck ++ (accP a ++ accP c)) : List (Nat × Blk)).map (·.1)) M → SrW w' 1 A n (iv .u8 l)) :
    Calls Try.prog 15 [.pointer (some ⟨b, 0, none⟩), AG (enV e), AG [(32, iv .u8 tag)], .int .i64 now].toArray w fun e' w' => ∃ r : PAcc × PAcc × List Ent × Nat, (POK r.1 ∧ POK r.2.1 ∧ r.1.p = a.p ∧ r.2.1.p = c.p ∧ r.1.abs = sndA a.abs c.abs e l tag now ∧ r.2.1.abs = sndC root ticks a.abs c.abs e l tag now ∧ Good root r.2.2.1) ∧ e' = .returned (.tuple #[AG (stV (sndS root ticks a.abs c.abs e l tag now)), .int .i64 (sndE a.abs c.abs e l tag now)]) ∧ HP w w' (((b, .cells (relS R.r ps) 110) :: (stpL R ticks root m ck ++ (accP a ++ accP c)) : List (Nat × Blk)).map (·.1)) ((b, .cells (relS R.r ps) 110) :: (stpL R ticks root r.2.2.1 r.2.2.2 ++ (accP r.1 ++ accP r.2.1)) : List (Nat × Blk)) := by
 have he0 := he
 obtain ⟨hbd, hec, hecb, hep, hepb, hlb2, hnl, hcp, hbig⟩ := he
 subst hnl
 obtain ⟨link, idn, sig, b3, hs3, susp, t, nt, many, p, bx, tk, o, ms, oA, on, oc, ks, oL⟩ := a
 have hpa0 := hpa
 obtain ⟨⟨al, alb, ai, as_, ab, ams, ao, am, abk, aon, aoc, akl, ak8, aonce⟩, hz1, hz2⟩ := hpa0
 dsimp only at al alb ai as_ ab ams ao am abk aon aoc akl ak8 hz1 hz2 hfr hto hmany ⊢
 subst hz1
 subst hz2
 obtain ⟨link2, idn2, sig2, b32, hs32, susp2, t2, nt2, many2, p2, bx2, tk2, o2, ms2, oA2, on2, oc2, ks2, oL2⟩ := c
 have hpc0 := hpc
 obtain ⟨⟨al2, alb2, ai2, as_2, ab2, ams2, ao2, am2, abk2, aon2, aoc2, akl2, ak82, aonce2⟩, hz1, hz2⟩ := hpc0
 dsimp only at al2 alb2 ai2 as_2 ab2 ams2 ao2 am2 abk2 aon2 aoc2 akl2 ak82 hz1 hz2 hfr hto hmany ⊢
 subst hz1
 subst hz2
 have hhb := heB_of hh
 have hsfc : (stampF root ticks e now).commit.length = 32 := stampF_c hec
 have hsft : (stampF root ticks e now).tag.length = 32 := stampF_t
 have hmay : mayB e now = true := by simp only [mayB, timeB, acB, Bool.and_eq_true, decide_eq_true_eq]; omega
 simp only [accP, stpL, hid0, List.cons_append, List.nil_append, List.append_assoc] at hp0 hs ⊢
 unfold enV
 refine calls_of_W Try.func15 rfl Try.ntmps15 rfl rfl hp0 ?_
 refine W.seq ?_
 refine W.back oL ?_
 simp only [List.cons_append, List.nil_append, List.append_nil, List.append_assoc]
 refine W.back (gLM 138 o ms.length (ms.flatMap mlV) 68) ?_
 simp only [List.cons_append, List.nil_append, List.append_nil, List.append_assoc]
 refine W.back (ms.flatMap mbL) ?_
 simp only [List.cons_append, List.nil_append, List.append_nil, List.append_assoc]
 refine W.back oL2 ?_
 simp only [List.cons_append, List.nil_append, List.append_nil, List.append_assoc]
 refine W.back (gLM 138 o2 ms2.length (ms2.flatMap mlV) 68) ?_
 simp only [List.cons_append, List.nil_append, List.append_nil, List.append_assoc]
 refine W.back (ms2.flatMap mbL) ?_
 simp only [List.cons_append, List.nil_append, List.append_nil, List.append_assoc]
 refine W.region ?_
 refine obxa (fun b5 => ?_)
 refine obxa (fun b6 => ?_)
 refine oal [(1, [.int .i64 0]), (1, [.int .i64 0]), (1, [.int .i64 0]), (1, [.int .i64 0]), (32, List.replicate 32 (.int .u8 0)), (32, List.replicate 32 (.int .u8 0))] (fun b8 => ?_)
 refine oas ?_
 refine nq ?_
 refine W.seq ?_
 refine sr ?_
 refine ov (vlda 69) ?_
 refine cgG rfl (fun w hp => henv_calls e A l.length cap l he0 hh w (hs w _ hp)) (fun o22 h22 => ?_)
 refine omv ?_
 refine ov vex ?_
 refine ov vex ?_
 refine oas ?_
 refine oas ?_
 refine nx ?_
 refine omv ?_
 refine ov (v2 V_neq) ?_
 refine omv ?_
 refine oy rfl rfl ?_
 refine ov (vfa0 0 1) ?_
 refine oy rfl rfl ?_
 refine ov vld ?_
 refine oy rfl rfl ?_
 refine ov (vfa0 1 1) ?_
 refine oy rfl rfl ?_
 refine ov vld ?_
 refine oy rfl rfl ?_
 refine ov (v2 V_eql) ?_
 refine ov (V_pick_f rfl rfl rfl) ?_
 refine omv ?_
 refine oy rfl (decide_eq_false (by omega)) ?_
 refine omv ?_
 refine oy rfl (decide_eq_false (by omega)) ?_
 refine ov (v2 V_lss) ?_
 refine ov (V_pick_f rfl (decide_eq_false (by omega)) rfl) ?_
 refine omv ?_
 refine oy rfl (decide_eq_false (by omega)) ?_
 refine omv ?_
 refine oy rfl (decide_eq_false (by omega)) ?_
 refine ov (v2 V_gtr) ?_
 refine ov (V_pick_f rfl (decide_eq_false (by omega)) rfl) ?_
 refine nq ?_
 refine W.cond_false rfl (decide_eq_false (by omega)) ?_
 refine W.skip ?_
 refine WQ.then ?_
 refine sr ?_
 refine omv ?_
 refine ov (vfa0 0 1) ?_
 refine ov vld ?_
 refine cp rfl (fun w hp => of20_calls R.r b ps h8 e.fr p hfr w hat) ?_
 refine omv ?_
 refine ov vex ?_
 refine ov vex ?_
 refine oas ?_
 refine oas ?_
 refine nx ?_
 refine omv ?_
 refine ov (vfa0 1 1) ?_
 refine ov vld ?_
 refine cp rfl (fun w hp => of20_calls R.r b ps h8 e.to p2 hto w hat) ?_
 refine omv ?_
 refine ov vex ?_
 refine ov vex ?_
 refine oas ?_
 refine oas ?_
 refine nq ?_
 refine W.seq ?_
 refine sr ?_
 refine omv ?_
 refine ov (v2 V_neq) ?_
 refine omv ?_
 refine oy rfl rfl ?_
 refine omv ?_
 refine oy rfl rfl ?_
 refine ov (v2 V_neq) ?_
 refine ov (V_pick_f rfl rfl rfl) ?_
 refine nq ?_
 refine W.cond_false rfl rfl ?_
 refine W.skip ?_
 refine WQ.then ?_
 refine sr ?_
 refine omv ?_
 refine ov vnil ?_
 refine ov (vfa0 130 1) ?_
 refine ov vld ?_
 refine ov V_makeFunc ?_
 refine oas ?_
 refine nq ?_
 refine W.seq ?_
 refine sr ?_
 refine omv ?_
 refine ov (vlda 69) ?_
 refine ov (vlda 32) ?_
 refine omv ?_
 refine cgP (ι := Unit) (A := fun _ => True) (V := fun _ => .int .i64 (rtE link susp e l tag ms2.length)) (M := fun _ => ((p, .cells [(32, iv .u8 link), (32, iv .u8 idn), (32, iv .u8 sig), (32, iv .u8 (List.replicate 32 0)), (1, [.bool false]), (1, [.slice oA on oc]), (1, [.pointer (some ⟨bx, 0, none⟩)]), (1, [.pointer (some ⟨tk, 0, none⟩)]), (1, [.bool susp])] 105) :: (((bx2, .cells [(1, [.slice (gA o2) ms2.length (gC o2)]), (1, [.int .i64 many2])] 190) :: (gLM 138 o2 ms2.length (ms2.flatMap mlV) 68 ++ ms2.flatMap mbL)) : List (Nat × Blk)) : List (Nat × Blk))) ((p, .cells [(32, iv .u8 link), (32, iv .u8 idn), (32, iv .u8 sig), (32, iv .u8 (List.replicate 32 0)), (1, [.bool false]), (1, [.slice oA on oc]), (1, [.pointer (some ⟨bx, 0, none⟩)]), (1, [.pointer (some ⟨tk, 0, none⟩)]), (1, [.bool susp])] 105) :: (((bx2, .cells [(1, [.slice (gA o2) ms2.length (gC o2)]), (1, [.int .i64 many2])] 190) :: (gLM 138 o2 ms2.length (ms2.flatMap mlV) 68 ++ ms2.flatMap mbL)) : List (Nat × Blk)) : List (Nat × Blk)) rfl (fun w hp => (rt20_calls (⟨link, idn, sig, List.replicate 32 0, false, susp, t, nt, many, p, bx, tk, o, ms, oA, on, oc, ks, oL⟩ : PAcc) p ⟨al, alb, ai, as_, ab, ams, ao, am, abk, aon, aoc, akl, ak8, aonce⟩ bx2 o2 ms2 many2 ao2 ams2 e A l.length cap l he0 hh tag htl htb w (HP.here hp cov) (fun w1 M h1 => hs w1 _ (HP.transP hp pr h1))).mono fun e w' ⟨h1, h2⟩ => ⟨(), trivial, h1, h2⟩) (fun _ _ => ?_)
 simp only [List.cons_append, List.nil_append, List.append_nil, List.append_assoc]
 refine WL.back (gLM 138 o2 ms2.length (ms2.flatMap mlV) 68) ?_
 simp only [List.cons_append, List.nil_append, List.append_nil, List.append_assoc]
 refine WL.back (ms2.flatMap mbL) ?_
 simp only [List.cons_append, List.nil_append, List.append_nil, List.append_assoc]
 refine oas ?_
 refine nq ?_
 refine W.seq ?_
 have E : sndR (PAcc.abs ⟨link, idn, sig, List.replicate 32 0, false, susp, t, nt, many, p, bx, tk, o, ms, oA, on, oc, ks, oL⟩) (PAcc.abs ⟨link2, idn2, sig2, List.replicate 32 0, false, susp2, t2, nt2, many2, p2, bx2, tk2, o2, ms2, oA2, on2, oc2, ks2, oL2⟩) e l tag = rtE link susp e l tag ms2.length := by unfold sndR PAcc.abs; dsimp only; rw [List.length_map]
 refine W.region ?_
 refine omv ?_
 refine ov (v2 V_neq) ?_
 refine nq ?_
 refine W.cond_dec rfl (fun g1 => ?_) (fun g1 => ?_)
 · refine W.seq ?_
   refine W.region ?_
   refine ov (V_build (by kernel_rfl) (zi (zs := [(1, [.int .i64 0]), (1, [.int .i64 0]), (1, [.int .i64 0]), (1, [.int .i64 0]), (32, List.replicate 32 (.int .u8 0)), (32, List.replicate 32 (.int .u8 0))])) (.nil _)) ?_
   refine omv ?_
   refine osta 68 ?_
   refine oas ?_
   refine nq ?_
   refine W.ret ?_
   refine WQ.then_ret ?_
   refine WQ.ret2 Try.results15 (.cellA 68 (by kernel_rfl) rfl at_ (by rfl)) (.tmp rfl) ?_
   intro w' hp; obtain ⟨e1, e2, e3, e4⟩ := snd_no (root := root) (ticks := ticks) (now := now) (show sndR (PAcc.abs ⟨link, idn, sig, List.replicate 32 0, false, susp, t, nt, many, p, bx, tk, o, ms, oA, on, oc, ks, oL⟩) (PAcc.abs ⟨link2, idn2, sig2, List.replicate 32 0, false, susp2, t2, nt2, many2, p2, bx2, tk2, o2, ms2, oA2, on2, oc2, ks2, oL2⟩) e l tag ≠ 0 by rw [E]; simpa using g1)
   rw [e1, e2]
   rw [E]; exact ⟨(⟨link, idn, sig, List.replicate 32 0, false, susp, t, nt, many, p, bx, tk, o, ms, oA, on, oc, ks, oL⟩, ⟨link2, idn2, sig2, List.replicate 32 0, false, susp2, t2, nt2, many2, p2, bx2, tk2, o2, ms2, oA2, on2, oc2, ks2, oL2⟩, m, ck), ⟨hpa, hpc, rfl, rfl, e3.symm, e4.symm, hg⟩, rfl, hp.cov cov⟩
 · refine W.skip ?_
   refine WQ.then ?_
   refine W.seq ?_
   refine sr ?_
   refine omv ?_
   refine ov vnil ?_
   refine ov (vfa0 131 1) ?_
   refine ov vld ?_
   refine omv ?_
   refine cm rfl (fun w hp => take_calls tk 5 10 t nt now 200 w (HP.held hp (tk, .cells (bkt 5 10 t nt) 200) mm) abk) ?_
   refine oas ?_
   refine nx ?_
   refine omv ?_
   refine ov (v2 V_neq) ?_
   refine nq ?_
   refine W.cond_dec rfl (fun g2 => ?_) (fun g2 => ?_)
   · refine W.seq ?_
     refine W.region ?_
     refine ov (V_build (by kernel_rfl) (zi (zs := [(1, [.int .i64 0]), (1, [.int .i64 0]), (1, [.int .i64 0]), (1, [.int .i64 0]), (32, List.replicate 32 (.int .u8 0)), (32, List.replicate 32 (.int .u8 0))])) (.nil _)) ?_
     refine omv ?_
     refine osta 68 ?_
     refine oas ?_
     refine nq ?_
     refine W.ret ?_
     refine WQ.then_ret ?_
     refine WQ.ret2 Try.results15 (.cellA 68 (by kernel_rfl) rfl at_ (by rfl)) (.tmp rfl) ?_
     intro w' hp; obtain ⟨e1, e2, e3, e4⟩ := snd_rate (root := root) (ticks := ticks) (now := now) (show sndR (PAcc.abs ⟨link, idn, sig, List.replicate 32 0, false, susp, t, nt, many, p, bx, tk, o, ms, oA, on, oc, ks, oL⟩) (PAcc.abs ⟨link2, idn2, sig2, List.replicate 32 0, false, susp2, t2, nt2, many2, p2, bx2, tk2, o2, ms2, oA2, on2, oc2, ks2, oL2⟩) e l tag = 0 by rw [E]; simpa using g1) (show takeE 5 10 t nt now ≠ 0 by simpa using g2)
     rw [e1, e2]
     exact ⟨(⟨link, idn, sig, List.replicate 32 0, false, susp, takeT t now, takeN 5 10 t nt now, many, p, bx, tk, o, ms, oA, on, oc, ks, oL⟩, ⟨link2, idn2, sig2, List.replicate 32 0, false, susp2, t2, nt2, many2, p2, bx2, tk2, o2, ms2, oA2, on2, oc2, ks2, oL2⟩, m, ck), ⟨⟨⟨al, alb, ai, as_, ab, ams, ao, am, abk.take now, aon, aoc, akl, ak8, aonce⟩, rfl, rfl⟩, hpc, rfl, rfl, e3.symm, e4.symm, hg⟩, rfl, hp.cov cov⟩
   · refine W.skip ?_
     refine WQ.then ?_
     refine W.seq ?_
     apply W.j3
     · intro hJ
       refine dr (.q 0 (.q 1 (.q 2 (.q 3 (.q 4 (.q 5 (.l2 6 (.q 7 (.q 8 (.q 9 (.l 10 (.l 11 (.q 12 (.done))))))) 10 (.l 6 (.q 7 (.q 8 (.q 9 (.l 11 (.q 12 (.done)))))))))))))) [(b5, _), (b, _)] ?_
       refine dq rfl (V_move rfl) ?_
       refine dq rfl vnil ?_
       refine dq rfl (vfa0 0 1) ?_
       refine dq rfl vld ?_
       refine dq rfl (vlda 69) ?_
       refine dq rfl (V_move rfl) ?_
       refine WD.l2 ?_ ?_
       · refine dcg rfl rfl (fun w hp => stamp_calls e now hec hecb hep R ticks root m ck w rat (HP.held hp (R.m, .obj (mapO .i64 m ck)) mm) hg hrl hrb hti) (fun b95 h95 => ?_)
         simp only [stV]
         refine dq rfl (V_move rfl) ?_
         refine dq rfl vex ?_
         refine dq rfl vex ?_
         refine WD.l ?_
         refine dal rfl [(1, [.int .i64 0]), (1, [.int .i64 0]), (1, [.int .i64 0]), (1, [.int .i64 0]), (32, List.replicate 32 (.int .u8 0)), (32, List.replicate 32 (.int .u8 0))] (fun b19 => ?_)
         refine WD.l ?_
         refine dsta rfl 68 ?_
         refine dq rfl (V_assign rfl) ?_
         refine WD.done ?_
         exact WQ.pick (S' := [(0, _), (1, _), (2, _), (3, _), (5, _), (6, _), (8, _), (9, _), (11, _), (12, _), (13, _), (14, _), (15, _), (16, _), (17, _), (18, _), (19, _), (41, _), (62, _), (75, _), (85, _)]) [0, 1, 2, 3, 5, 6, 8, 9, 11, 12, 13, 14, 15, 16, 17, 18, 19, 41, 62, 75, 85] rfl (hJ b19 b95 h95)
       · refine dal rfl [(1, [.int .i64 0]), (1, [.int .i64 0]), (1, [.int .i64 0]), (1, [.int .i64 0]), (32, List.replicate 32 (.int .u8 0)), (32, List.replicate 32 (.int .u8 0))] (fun b19 => ?_)
         refine WD.l ?_
         refine dcg rfl rfl (fun w hp => stamp_calls e now hec hecb hep R ticks root m ck w rat (HP.held hp (R.m, .obj (mapO .i64 m ck)) mm) hg hrl hrb hti) (fun b95 h95 => ?_)
         simp only [stV]
         refine dq rfl (V_move rfl) ?_
         refine dq rfl vex ?_
         refine dq rfl vex ?_
         refine WD.l ?_
         refine dsta rfl 68 ?_
         refine dq rfl (V_assign rfl) ?_
         refine WD.done ?_
         exact WQ.pick (S' := [(0, _), (1, _), (2, _), (3, _), (5, _), (6, _), (8, _), (9, _), (11, _), (12, _), (13, _), (14, _), (15, _), (16, _), (17, _), (18, _), (19, _), (41, _), (62, _), (75, _), (85, _)]) [0, 1, 2, 3, 5, 6, 8, 9, 11, 12, 13, 14, 15, 16, 17, 18, 19, 41, 62, 75, 85] rfl (WQ.cov _ (hJ b19 b95 h95))
     intro b19 b95 h95
     refine WQ.then ?_
     refine W.seq ?_
     refine sr ?_
     refine omv ?_
     refine ov (v2 V_neq) ?_
     refine nq ?_
     refine W.cond_false rfl (by rw [hmay]; rfl) ?_
     refine W.skip ?_
     refine WQ.then ?_
     refine W.seq ?_
     refine dr (.q 0 (.q 1 (.q 2 (.q 3 (.q 4 (.q 5 (.l 6 (.q 7 (.q 8 (.q 9 (.q 10 (.done)))))))))))) [(b19, _), (b5, _), (p2, _)] ?_
     refine dq rfl (V_move rfl) ?_
     refine dq rfl vnil ?_
     refine dq rfl (vfa0 130 1) ?_
     refine dq rfl vld ?_
     refine dq rfl (vlda 69) ?_
     refine dq rfl (vlda 68) ?_
     refine WD.l ?_
     refine dcgP _ rfl rfl (fun w hp => put19_calls bx2 o2 ms2 many2 ao2 ams2 e A l.length cap l he0 hh (stampF root ticks e now) (stampF_c hec) stampF_t (rt0_of (by simpa using g1)).2.2 (by omega) w (HP.here hp cov) (fun w1 M h1 => hs w1 _ (HP.transP hp pr h1))) (fun r109 h109 => ?_)
     simp only [List.cons_append, List.nil_append, List.append_nil, List.append_assoc]
     refine WD.back (gLM 138 r109.2 (ms2 ++ [(⟨⟨many2 + 1, e.at none 0 0, stampF root ticks e now, l⟩, some (r109.1, l.length, [])⟩ : ML)]).length ((ms2 ++ [(⟨⟨many2 + 1, e.at none 0 0, stampF root ticks e now, l⟩, some (r109.1, l.length, [])⟩ : ML)]).flatMap mlV) 68) ?_
     simp only [List.cons_append, List.nil_append, List.append_nil, List.append_assoc]
     refine WD.back ((ms2 ++ [(⟨⟨many2 + 1, e.at none 0 0, stampF root ticks e now, l⟩, some (r109.1, l.length, [])⟩ : ML)]).flatMap mbL) ?_
     simp only [List.cons_append, List.nil_append, List.append_nil, List.append_assoc]
     refine dq rfl (V_move rfl) ?_
     refine dq rfl vex ?_
     refine dq rfl vex ?_
     refine dq rfl (V_assign rfl) ?_
     refine WD.done ?_
     refine WQ.then ?_
     refine sr ?_
     refine ov (vlda 68) ?_
     refine omv ?_
     refine osta 68 ?_
     refine oas ?_
     refine nq ?_
     refine W.ret ?_
     refine WQ.ret2 Try.results15 (.cellA 68 (by kernel_rfl) rfl at_ (by rfl)) (.tmp rfl) ?_
     intro w' hp; obtain ⟨e1, e2, e3, e4⟩ := snd_yes (root := root) (ticks := ticks) (now := now) (show sndR (PAcc.abs ⟨link, idn, sig, List.replicate 32 0, false, susp, t, nt, many, p, bx, tk, o, ms, oA, on, oc, ks, oL⟩) (PAcc.abs ⟨link2, idn2, sig2, List.replicate 32 0, false, susp2, t2, nt2, many2, p2, bx2, tk2, o2, ms2, oA2, on2, oc2, ks2, oL2⟩) e l tag = 0 by rw [E]; simpa using g1) (show takeE 5 10 t nt now = 0 by simpa using g2)
     rw [e1, e2]
     rw [show stV (stampF root ticks e now) = [(1, [.int .i64 (stampF root ticks e now).epoch]), (1, [.int .i64 (stampF root ticks e now).fr]), (1, [.int .i64 (stampF root ticks e now).to]), (1, [.int .i64 (stampF root ticks e now).time]), (32, iv .u8 (stampF root ticks e now).commit), (32, iv .u8 (stampF root ticks e now).tag)] from rfl]
     have hnew : MOK (⟨⟨many2 + 1, e.at none 0 0, stampF root ticks e now, l⟩, some (r109.1, l.length, [])⟩ : ML) := ⟨⟨rfl, hec, hecb, hep, hepb, hlb2, hsfc, hsft, hh⟩, Nat.le_refl _⟩
     refine ⟨(⟨link, idn, sig, List.replicate 32 0, false, susp, takeT t now, takeN 5 10 t nt now, many, p, bx, tk, o, ms, oA, on, oc, ks, oL⟩, ⟨link2, idn2, sig2, List.replicate 32 0, false, susp2, t2, nt2, many2 + 1, p2, bx2, tk2, r109.2, ms2 ++ [(⟨⟨many2 + 1, e.at none 0 0, stampF root ticks e now, l⟩, some (r109.1, l.length, [])⟩ : ML)], oA2, on2, oc2, ks2, oL2⟩, b95.1, b95.2), ⟨⟨⟨al, alb, ai, as_, ab, ams, ao, am, abk.take now, aon, aoc, akl, ak8, aonce⟩, rfl, rfl⟩, ⟨?_, rfl, rfl⟩, rfl, rfl, e3.symm, ?_, h95⟩, rfl, hp.cov cov⟩
     · exact ⟨al2, alb2, ai2, as_2, ab2, ams2.snoc hnew (rt0_of (by simpa using g1)).2.2, by rw [List.length_append]; exact h109, by dsimp only; omega, abk2, aon2, aoc2, akl2, ak82, aonce2⟩
     · rw [e4]; unfold PAcc.abs AAcc.put; simp

end Go.Proofs.Ytmeckbjinmgbbaa