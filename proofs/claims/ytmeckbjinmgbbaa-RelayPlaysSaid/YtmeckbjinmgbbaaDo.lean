/- Layer 20: a step, on both sides. -/
import Derived.Test.YtmeckbjinmgbbaaRMails
set_option linter.unusedVariables false
set_option linter.unusedSimpArgs false

namespace Go.Proofs.Ytmeckbjinmgbbaa
open Go.X
def tgE (e : EnvS) (n : Nat) : Int := if heB e n = true then 0 else 1
def tgV (link : List Int) (e : EnvS) (n : Nat) (l : List Int) : List Int := if heB e n = true then tgL link e l else List.replicate 32 0
@[simp] theorem tgV_len {link : List Int} {e : EnvS} {n : Nat} {l : List Int} : (tgV link e n l).length = 32 := by unfold tgV; split <;> simp
@[simp] theorem tgV_bytes {link : List Int} {e : EnvS} {n : Nat} {l : List Int} : bytes (tgV link e n l) := by
  unfold tgV; split
  · exact tgL_bytes
  · exact zbytes

theorem tag20_any (link : List Int) (hl : link.length = 32) (hlb : bytes link) (e : EnvS) (A : Option Addr) (n cap : Nat) (l : List Int) (he : EnOK e A n cap l) (w : World) (hs : SrW w 1 A n (iv .u8 l)) :
    Calls Try.prog 13 [AG [(32, iv .u8 link)], AG (enV e)].toArray w fun e' w' => e' = .returned (.tuple #[AG [(32, iv .u8 (tgV link e n l))], .int .i64 (tgE e n)]) ∧ HP w w' [] [] := by
  unfold tgV tgE
  by_cases hh : heB e n = true
  · rw [if_pos hh, if_pos hh]; exact tag20_calls link hl hlb e A n cap l he hh w hs
  · rw [if_neg hh, if_neg hh]; exact tag20_bad link hl e A n cap l he hh w

theorem rtag20_any (link : List Int) (hl : link.length = 32) (hlb : bytes link) (e : EnvS) (A : Option Addr) (n cap : Nat) (l : List Int) (he : EnOK e A n cap l) (w : World) (hs : SrW w 1 A n (iv .u8 l)) :
    Calls Try.prog 61 [AG [(32, iv .u8 link)], AG (enV e)].toArray w fun e' w' => e' = .returned (.tuple #[AG [(32, iv .u8 (tgV link e n l))], .int .i64 (tgE e n)]) ∧ HP w w' [] [] := by
  unfold tgV tgE
  by_cases hh : heB e n = true
  · rw [if_pos hh, if_pos hh]; exact rtag20_calls link hl hlb e A n cap l he hh w hs
  · rw [if_neg hh, if_neg hh]; exact rtag20_bad link hl e A n cap l he hh w

theorem fetS_len {ok : PAcc → Prop} {k : Int} {qs : List (Option PAcc)} (h : QOK ok k qs) (hok : ∀ a, ok a → AOK a) {n : Int} : (fetS (absO qs) n).idn.length = 32 ∧ (fetS (absO qs) n).sig.length = 32 ∧ (fetS (absO qs) n).k.length = 32 := by
  unfold fetS
  rw [ofP_absO]
  cases hn : ofP qs n with
  | none => exact ⟨rfl, rfl, rfl⟩
  | some a =>
    have ha := hok a (h.at_ hn).1.1
    show (bunS a.abs).idn.length = 32 ∧ (bunS a.abs).sig.length = 32 ∧ (bunS a.abs).k.length = 32
    unfold bunS
    split
    · exact ⟨ha.i, ha.s, rfl⟩
    · rename_i k _ e
      exact ⟨ha.i, ha.s, ha.kl k (by rw [show a.ks = k :: _ from e]; exact List.mem_cons_self)⟩
theorem POK.aok {a : PAcc} (h : POK a) : AOK a := h.1

set_option maxRecDepth 8000 in
set_option maxHeartbeats 4000000 in
theorem do20_calls (b : Nat) (R : Rel) (ticks : Int) (root : List Int) (hti : 1 ≤ ticks) (hrl : root.length = 32) (hrb : bytes root) (qs : List (Option PAcc)) (k : Int) (hq : QOK POK k qs) (m : List Ent) (ck : Nat) (hg : Good root m) (b2 : Nat) (rs : List (Option PAcc)) (hr : QOK AOK k rs) (hQ : absO qs = absO rs) (o : OpR) (he : EnOK o.e o.A o.n o.cap o.b) (htl : o.tag.length = 32) (htb : bytes o.tag) (hkl : o.kn = o.ks.length) (hkc : o.kn ≤ o.kc) (hk32 : ∀ k ∈ o.ks, k.length = 32) (hk0 : 0 ≤ k) (hk1 : k ≤ 1000000)
    (w : World) (hp0 : HP w w (((b, .cells (relS R.r (psO qs)) 110) :: (b2, .cells (rlS root ticks (psO rs)) 130) :: (stpL R ticks root m ck ++ (accs accP qs ++ accs accR rs)) : List (Nat × Blk)).map (·.1)) ((b, .cells (relS R.r (psO qs)) 110) :: (b2, .cells (rlS root ticks (psO rs)) 130) :: (stpL R ticks root m ck ++ (accs accP qs ++ accs accR rs)) : List (Nat × Blk))) (hsb : ∀ w' M, HP w w' (((b, .cells (relS R.r (psO qs)) 110) :: (b2, .cells (rlS root ticks (psO rs)) 130) :: (stpL R ticks root m ck ++ (accs accP qs ++ accs accR rs)) : List (Nat × Blk)).map (·.1)) M → SrW w' 1 o.A o.n (iv .u8 o.b)) (hsk : ∀ w' M, HP w w' (((b, .cells (relS R.r (psO qs)) 110) :: (b2, .cells (rlS root ticks (psO rs)) 130) :: (stpL R ticks root m ck ++ (accs accP qs ++ accs accR rs)) : List (Nat × Blk)).map (·.1)) M → SrW w' 32 o.kA o.kn (o.ks.flatMap (iv .u8))) :
    Calls Try.prog 27 [.pointer (some ⟨b, 0, none⟩), .pointer (some ⟨b2, 0, none⟩), AG o.segs].toArray w fun e' w' => ∃ r : List (Option PAcc) × List Ent × Nat × List (Option PAcc), (QOK POK (k + 1) r.1 ∧ Good root r.2.1 ∧ QOK AOK (k + 1) r.2.2.2 ∧ absO r.1 = absO r.2.2.2) ∧ e' = .returned (.bool true) ∧ HP w w' (((b, .cells (relS R.r (psO qs)) 110) :: (b2, .cells (rlS root ticks (psO rs)) 130) :: (stpL R ticks root m ck ++ (accs accP qs ++ accs accR rs)) : List (Nat × Blk)).map (·.1)) ((b, .cells (relS R.r (psO r.1)) 110) :: (b2, .cells (rlS root ticks (psO r.2.2.2)) 130) :: (stpL R ticks root r.2.1 r.2.2.1 ++ (accs accP r.1 ++ accs accR r.2.2.2)) : List (Nat × Blk)) := by
 have hec := he.c
 have hep := he.p
 unfold OpR.segs enV
 simp only [List.cons_append, List.nil_append]
 refine calls_of_W Try.func27 rfl Try.ntmps27 rfl rfl hp0 ?_
 refine sr ?_
 refine obxa (fun b5 => ?_)
 refine oas ?_
 refine nq ?_
 refine W.seq ?_
 refine sr ?_
 refine ov (vfa0 0 1) ?_
 refine ov vld ?_
 refine nq ?_
 refine W.block ?_
 refine sr ?_
 refine ov (v2 V_eql) ?_
 refine oas ?_
 refine nq ?_
 refine W.cond_dec rfl (fun g1 => ?_) (fun g1 => ?_)
 · refine W.seq ?_
   refine dr (.q 0 (.q 1 (.q 2 (.q 3 (.q 4 (.q 6 (.q 7 (.q 9 (.q 10 (.q 12 (.q 13 (.q 14 (.q 15 (.q 16 (.q 18 (.q 19 (.q 21 (.q 22 (.l 5 (.l 8 (.l 11 (.l 17 (.l 20 (.l 23 (.q 24 (.q 25 (.done))))))))))))))))))))))))))) [(b5, _)] ?_
   refine dq rfl (V_move rfl) ?_
   refine dq rfl (vfa0 1 1) ?_
   refine dq rfl vld ?_
   refine dq rfl (vfa0 1 1) ?_
   refine dq rfl vld ?_
   refine dq rfl (vfa0 1 1) ?_
   refine dq rfl vld ?_
   refine dq rfl (vfa0 105 1) ?_
   refine dq rfl vld ?_
   refine dq rfl (V_move rfl) ?_
   refine dq rfl (vfa0 1 1) ?_
   refine dq rfl vld ?_
   refine dq rfl (vfa0 1 1) ?_
   refine dq rfl vld ?_
   refine dq rfl (vfa0 1 1) ?_
   refine dq rfl vld ?_
   refine dq rfl (vfa0 105 1) ?_
   refine dq rfl vld ?_
   refine WD.l ?_
   refine dcp rfl rfl (fun w hp => link20_calls _ w) ?_
   refine WD.l ?_
   refine dcp rfl rfl (fun w hp => bundle20_calls _ w) ?_
   refine WD.l ?_
   refine dcgP _ rfl rfl (fun w hp => reg20W b R qs k hq o.num (lnk o.num) (bid o.num) (bsg o.num) bk3 true o.kA o.kn o.kc o.ks lnk_len lnk_bytes rfl rfl rfl hkl hkc hk32 w (HP.here hp cov) (fun w1 M h1 => (hsk w1 _ (HP.transP hp pr h1))) hk0) (fun r35 h35 => ?_)
   simp only [List.cons_append, List.nil_append, List.append_nil, List.append_assoc]
   refine WD.back (accs accP r35) ?_
   simp only [List.cons_append, List.nil_append, List.append_nil, List.append_assoc]
   refine WD.l ?_
   refine dcp rfl rfl (fun w hp => link20_calls _ w) ?_
   refine WD.l ?_
   refine dcp rfl rfl (fun w hp => bundle20_calls _ w) ?_
   refine WD.l ?_
   refine dcgP _ rfl rfl (fun w hp => rreg20W root hrl ticks b2 rs k hr o.num (lnk o.num) (bid o.num) (bsg o.num) bk3 true o.kA o.kn o.kc o.ks lnk_len lnk_bytes rfl rfl rfl hkl hkc hk32 w (HP.here hp cov) (fun w1 M h1 => (hsk w1 _ (HP.transP hp pr h1))) hk0) (fun r47 h47 => ?_)
   simp only [List.cons_append, List.nil_append, List.append_nil, List.append_assoc]
   refine WD.back (accs accR r47) ?_
   simp only [List.cons_append, List.nil_append, List.append_nil, List.append_assoc]
   refine dq rfl (v2 V_eql) ?_
   refine dq rfl (V_assign rfl) ?_
   refine WD.done ?_
   refine WQ.then ?_
   refine W.ret ?_
   refine WQ.block_ret ?_
   refine WQ.then_ret ?_
   refine WQ.ret1 Try.results27 (.tmp rfl) ?_
   intro w' hp; exact ⟨(r35, m, ck, r47), ⟨h35.1.mono (by omega), hg, h47.1.mono (by omega), by rw [h35.2, h47.2, hQ]⟩, by first | rfl | (rw [hQ]; simp; done) | (simp [hQ]; done), hp.cov cov⟩
 · refine W.seq ?_
   refine W.region ?_
   refine ov (v2 V_eql) ?_
   refine oas ?_
   refine nq ?_
   refine W.cond_dec rfl (fun g2 => ?_) (fun g2 => ?_)
   · refine W.seq ?_
     refine W.region ?_
     refine omv ?_
     refine ov (vfa0 1 1) ?_
     refine ov vld ?_
     refine cgP _ rfl (fun w hp => fet20W b R qs k hq o.num w (HP.here hp cov)) (fun r55 h55 => ?_)
     simp only [List.cons_append, List.nil_append, List.append_nil, List.append_assoc]
     refine WL.back (accs accP r55) ?_
     simp only [List.cons_append, List.nil_append, List.append_nil, List.append_assoc]
     obtain ⟨F, hF⟩ : ∃ s, s = fetS (absO qs) o.num := ⟨_, rfl⟩
     obtain ⟨hf1, hf2, hf3⟩ := fetS_len hq (fun a h => h.aok) (n := o.num)
     rw [← hF] at hf1 hf2 hf3
     rw [← hF]
     unfold BunS.V bunV
     refine omv ?_
     refine ov vex ?_
     refine ov vex ?_
     refine oal [(32, List.replicate 32 (.int .u8 0)), (32, List.replicate 32 (.int .u8 0)), (32, List.replicate 32 (.int .u8 0)), (1, [.bool false])] (fun b7 => ?_)
     refine osta 97 ?_
     refine oas ?_
     refine nx ?_
     refine omv ?_
     refine ov (vfa0 1 1) ?_
     refine ov vld ?_
     refine cgP _ rfl (fun w hp => rfet20W root hrl ticks b2 rs k hr o.num w (HP.here hp cov)) (fun r62 h62 => ?_)
     simp only [List.cons_append, List.nil_append, List.append_nil, List.append_assoc]
     refine WL.back (accs accR r62) ?_
     simp only [List.cons_append, List.nil_append, List.append_nil, List.append_assoc]
     rw [← hQ, ← hF]
     unfold BunS.V bunV
     refine omv ?_
     refine ov vex ?_
     refine ov vex ?_
     refine oal [(32, List.replicate 32 (.int .u8 0)), (32, List.replicate 32 (.int .u8 0)), (32, List.replicate 32 (.int .u8 0)), (1, [.bool false])] (fun b9 => ?_)
     refine osta 97 ?_
     refine oas ?_
     refine nx ?_
     refine ov (vlda 97) ?_
     refine ov (vlda 97) ?_
     refine ov (veqA [(32, 6), (32, 6), (32, 6), (1, 1)]) ?_
     refine omv ?_
     refine oy rfl (by simp) ?_
     refine omv ?_
     refine oy rfl (by simp) ?_
     refine omv ?_
     refine oy rfl (by simp) ?_
     refine ov (v2 V_eql) ?_
     refine ov (V_pick_t rfl (by simp) rfl) ?_
     refine oas ?_
     refine nq ?_
     refine W.ret ?_
     refine WQ.block_ret ?_
     refine WQ.then_ret ?_
     refine WQ.ret1 Try.results27 (.tmp rfl) ?_
     intro w' hp; exact ⟨(r55, m, ck, r62), ⟨h55.1.mono (by omega), hg, h62.1.mono (by omega), by rw [h55.2, h62.2, hQ]⟩, by first | rfl | (rw [hQ]; simp; done) | (simp [hQ]; done), hp.cov cov⟩
   · refine W.seq ?_
     refine W.region ?_
     refine ov (v2 V_eql) ?_
     refine oas ?_
     refine nq ?_
     refine W.cond_dec rfl (fun g3 => ?_) (fun g3 => ?_)
     · refine W.seq ?_
       refine dr (.q 0 (.q 1 (.q 2 (.q 3 (.q 4 (.q 6 (.q 7 (.q 8 (.q 9 (.q 10 (.l 5 (.l 11 (.q 12 (.q 13 (.done))))))))))))))) [(b5, _)] ?_
       refine dq rfl (V_move rfl) ?_
       refine dq rfl (vfa0 1 1) ?_
       refine dq rfl vld ?_
       refine dq rfl (vfa0 2 1) ?_
       refine dq rfl vld ?_
       refine dq rfl (V_move rfl) ?_
       refine dq rfl (vfa0 1 1) ?_
       refine dq rfl vld ?_
       refine dq rfl (vfa0 2 1) ?_
       refine dq rfl vld ?_
       refine WD.l ?_
       refine dcgP _ rfl rfl (fun w hp => ack20W b R qs k hq o.num o.id w (HP.here hp cov)) (fun r80 h80 => ?_)
       simp only [List.cons_append, List.nil_append, List.append_nil, List.append_assoc]
       refine WD.back (accs accP r80) ?_
       simp only [List.cons_append, List.nil_append, List.append_nil, List.append_assoc]
       refine WD.l ?_
       refine dcgP _ rfl rfl (fun w hp => rack20W root hrl ticks b2 rs k hr o.num o.id w (HP.here hp cov)) (fun r86 h86 => ?_)
       simp only [List.cons_append, List.nil_append, List.append_nil, List.append_assoc]
       refine WD.back (accs accR r86) ?_
       simp only [List.cons_append, List.nil_append, List.append_nil, List.append_assoc]
       refine dq rfl (v2 V_eql) ?_
       refine dq rfl (V_assign rfl) ?_
       refine WD.done ?_
       refine WQ.then ?_
       refine W.ret ?_
       refine WQ.block_ret ?_
       refine WQ.then_ret ?_
       refine WQ.ret1 Try.results27 (.tmp rfl) ?_
       intro w' hp; exact ⟨(r80, m, ck, r86), ⟨h80.1.mono (by omega), hg, h86.1.mono (by omega), by rw [h80.2, h86.2, hQ]⟩, by first | rfl | (rw [hQ]; simp; done) | (simp [hQ]; done), hp.cov cov⟩
     · refine W.seq ?_
       refine W.region ?_
       refine ov (v2 V_eql) ?_
       refine oas ?_
       refine nq ?_
       refine W.cond_dec rfl (fun g4 => ?_) (fun g4 => ?_)
       · refine W.seq ?_
         refine dr (.q 0 (.q 1 (.q 2 (.q 3 (.q 4 (.q 5 (.q 6 (.q 8 (.q 9 (.q 10 (.q 11 (.q 12 (.q 13 (.q 14 (.l 7 (.l 15 (.q 16 (.q 17 (.done))))))))))))))))))) [(b5, _)] ?_
         refine dq rfl (V_move rfl) ?_
         refine dq rfl (vfa0 1 1) ?_
         refine dq rfl vld ?_
         refine dq rfl (vfa0 2 1) ?_
         refine dq rfl vld ?_
         refine dq rfl (v2 V_and) ?_
         refine dq rfl (v2 V_eql) ?_
         refine dq rfl (V_move rfl) ?_
         refine dq rfl (vfa0 1 1) ?_
         refine dq rfl vld ?_
         refine dq rfl (vfa0 2 1) ?_
         refine dq rfl vld ?_
         refine dq rfl (v2 V_and) ?_
         refine dq rfl (v2 V_eql) ?_
         refine WD.l ?_
         refine dcgP _ rfl rfl (fun w hp => sus20W b R qs k hq o.num (decide (andI .i64 o.id 1 = 1)) w (HP.here hp cov)) (fun r97 h97 => ?_)
         simp only [List.cons_append, List.nil_append, List.append_nil, List.append_assoc]
         refine WD.back (accs accP r97) ?_
         simp only [List.cons_append, List.nil_append, List.append_nil, List.append_assoc]
         refine WD.l ?_
         refine dcgP _ rfl rfl (fun w hp => rsus20W root hrl ticks b2 rs k hr o.num (decide (andI .i64 o.id 1 = 1)) w (HP.here hp cov)) (fun r105 h105 => ?_)
         simp only [List.cons_append, List.nil_append, List.append_nil, List.append_assoc]
         refine WD.back (accs accR r105) ?_
         simp only [List.cons_append, List.nil_append, List.append_nil, List.append_assoc]
         refine dq rfl (v2 V_eql) ?_
         refine dq rfl (V_assign rfl) ?_
         refine WD.done ?_
         refine WQ.then ?_
         refine W.ret ?_
         refine WQ.block_ret ?_
         refine WQ.then_ret ?_
         refine WQ.ret1 Try.results27 (.tmp rfl) ?_
         intro w' hp; exact ⟨(r97, m, ck, r105), ⟨h97.1.mono (by omega), hg, h105.1.mono (by omega), by rw [h97.2, h105.2, hQ]⟩, by first | rfl | (rw [hQ]; simp; done) | (simp [hQ]; done), hp.cov cov⟩
       · refine W.skip ?_
         refine WQ.block_normal ?_
         refine WQ.then ?_
         refine sr ?_
         refine ov (vfa0 73 32) ?_
         refine ov (vlda 32) ?_
         refine oal [(32, List.replicate 32 (.int .u8 0))] (fun b11 => ?_)
         refine osta 32 ?_
         refine nq ?_
         refine W.seq ?_
         refine sr ?_
         refine ov (vfa0 0 1) ?_
         refine ov vld ?_
         refine ov (v2 V_neq) ?_
         refine nq ?_
         refine W.cond_dec rfl (fun g5 => ?_) (fun g5 => ?_)
         · refine W.seq ?_
           apply W.j1
           · intro hJ
             refine dr (.q 0 (.q 1 (.q 2 (.q 4 (.q 5 (.l2 3 (.l2 6 (.q 7 (.q 8 (.q 9 (.l 10 (.l 11 (.q 12 (.done))))))) 10 (.l 6 (.q 7 (.q 8 (.q 9 (.l 11 (.q 12 (.done)))))))) 10 (.l 3 (.l 6 (.q 7 (.q 8 (.q 9 (.l 11 (.q 12 (.done)))))))))))))) [(b5, _)] ?_
             refine dq rfl (vfa0 4 69) ?_
             refine dq rfl (vfa 0 1) ?_
             refine dq rfl vld ?_
             refine dq rfl (vfa0 4 69) ?_
             refine dq rfl (vlda 69) ?_
             refine WD.l2 ?_ ?_
             · refine dcp rfl rfl (fun w hp => link20_calls _ w) ?_
               refine WD.l2 ?_ ?_
               · refine dcp rfl rfl (fun w hp => tag20_any (lnk o.e.fr) lnk_len lnk_bytes o.e o.A o.n o.cap o.b he w (hsb w _ hp)) ?_
                 refine dq rfl (V_move rfl) ?_
                 refine dq rfl vex ?_
                 refine dq rfl vex ?_
                 refine WD.l ?_
                 refine dal rfl [(32, List.replicate 32 (.int .u8 0))] (fun b12 => ?_)
                 refine WD.l ?_
                 refine dsta rfl 32 ?_
                 refine dq rfl (V_assign rfl) ?_
                 refine WD.done ?_
                 exact WQ.pick (S' := [(0, _), (1, _), (2, _), (5, _), (6, _), (11, _), (12, _), (13, _), (21, _), (22, _), (49, _), (73, _), (88, _), (111, _)]) [0, 1, 2, 5, 6, 11, 12, 13, 21, 22, 49, 73, 88, 111] rfl (hJ b12)
               · refine dal rfl [(32, List.replicate 32 (.int .u8 0))] (fun b12 => ?_)
                 refine WD.l ?_
                 refine dcp rfl rfl (fun w hp => tag20_any (lnk o.e.fr) lnk_len lnk_bytes o.e o.A o.n o.cap o.b he w (hsb w _ hp)) ?_
                 refine dq rfl (V_move rfl) ?_
                 refine dq rfl vex ?_
                 refine dq rfl vex ?_
                 refine WD.l ?_
                 refine dsta rfl 32 ?_
                 refine dq rfl (V_assign rfl) ?_
                 refine WD.done ?_
                 exact WQ.pick (S' := [(0, _), (1, _), (2, _), (5, _), (6, _), (11, _), (12, _), (13, _), (21, _), (22, _), (49, _), (73, _), (88, _), (111, _)]) [0, 1, 2, 5, 6, 11, 12, 13, 21, 22, 49, 73, 88, 111] rfl (hJ b12)
             · refine dal rfl [(32, List.replicate 32 (.int .u8 0))] (fun b12 => ?_)
               refine WD.l ?_
               refine dcp rfl rfl (fun w hp => link20_calls _ w) ?_
               refine WD.l ?_
               refine dcp rfl rfl (fun w hp => tag20_any (lnk o.e.fr) lnk_len lnk_bytes o.e o.A o.n o.cap o.b he w (hsb w _ hp)) ?_
               refine dq rfl (V_move rfl) ?_
               refine dq rfl vex ?_
               refine dq rfl vex ?_
               refine WD.l ?_
               refine dsta rfl 32 ?_
               refine dq rfl (V_assign rfl) ?_
               refine WD.done ?_
               exact WQ.pick (S' := [(0, _), (1, _), (2, _), (5, _), (6, _), (11, _), (12, _), (13, _), (21, _), (22, _), (49, _), (73, _), (88, _), (111, _)]) [0, 1, 2, 5, 6, 11, 12, 13, 21, 22, 49, 73, 88, 111] rfl (hJ b12)
           intro b12
           refine WQ.then ?_
           refine W.seq ?_
           apply W.j1
           · intro hJ
             refine dr (.q 0 (.q 1 (.q 2 (.q 4 (.q 5 (.l2 3 (.l2 6 (.q 7 (.q 8 (.q 9 (.l 10 (.l 11 (.q 12 (.done))))))) 10 (.l 6 (.q 7 (.q 8 (.q 9 (.l 11 (.q 12 (.done)))))))) 10 (.l 3 (.l 6 (.q 7 (.q 8 (.q 9 (.l 11 (.q 12 (.done)))))))))))))) [(b5, _)] ?_
             refine dq rfl (vfa0 4 69) ?_
             refine dq rfl (vfa 0 1) ?_
             refine dq rfl vld ?_
             refine dq rfl (vfa0 4 69) ?_
             refine dq rfl (vlda 69) ?_
             refine WD.l2 ?_ ?_
             · refine dcp rfl rfl (fun w hp => link20_calls _ w) ?_
               refine WD.l2 ?_ ?_
               · refine dcp rfl rfl (fun w hp => rtag20_any (lnk o.e.fr) lnk_len lnk_bytes o.e o.A o.n o.cap o.b he w (hsb w _ hp)) ?_
                 refine dq rfl (V_move rfl) ?_
                 refine dq rfl vex ?_
                 refine dq rfl vex ?_
                 refine WD.l ?_
                 refine dal rfl [(32, List.replicate 32 (.int .u8 0))] (fun b14 => ?_)
                 refine WD.l ?_
                 refine dsta rfl 32 ?_
                 refine dq rfl (V_assign rfl) ?_
                 refine WD.done ?_
                 exact WQ.pick (S' := [(0, _), (1, _), (2, _), (5, _), (6, _), (11, _), (12, _), (13, _), (14, _), (15, _), (21, _), (22, _), (49, _), (73, _), (88, _), (111, _)]) [0, 1, 2, 5, 6, 11, 12, 13, 14, 15, 21, 22, 49, 73, 88, 111] rfl (hJ b14)
               · refine dal rfl [(32, List.replicate 32 (.int .u8 0))] (fun b14 => ?_)
                 refine WD.l ?_
                 refine dcp rfl rfl (fun w hp => rtag20_any (lnk o.e.fr) lnk_len lnk_bytes o.e o.A o.n o.cap o.b he w (hsb w _ hp)) ?_
                 refine dq rfl (V_move rfl) ?_
                 refine dq rfl vex ?_
                 refine dq rfl vex ?_
                 refine WD.l ?_
                 refine dsta rfl 32 ?_
                 refine dq rfl (V_assign rfl) ?_
                 refine WD.done ?_
                 exact WQ.pick (S' := [(0, _), (1, _), (2, _), (5, _), (6, _), (11, _), (12, _), (13, _), (14, _), (15, _), (21, _), (22, _), (49, _), (73, _), (88, _), (111, _)]) [0, 1, 2, 5, 6, 11, 12, 13, 14, 15, 21, 22, 49, 73, 88, 111] rfl (hJ b14)
             · refine dal rfl [(32, List.replicate 32 (.int .u8 0))] (fun b14 => ?_)
               refine WD.l ?_
               refine dcp rfl rfl (fun w hp => link20_calls _ w) ?_
               refine WD.l ?_
               refine dcp rfl rfl (fun w hp => rtag20_any (lnk o.e.fr) lnk_len lnk_bytes o.e o.A o.n o.cap o.b he w (hsb w _ hp)) ?_
               refine dq rfl (V_move rfl) ?_
               refine dq rfl vex ?_
               refine dq rfl vex ?_
               refine WD.l ?_
               refine dsta rfl 32 ?_
               refine dq rfl (V_assign rfl) ?_
               refine WD.done ?_
               exact WQ.pick (S' := [(0, _), (1, _), (2, _), (5, _), (6, _), (11, _), (12, _), (13, _), (14, _), (15, _), (21, _), (22, _), (49, _), (73, _), (88, _), (111, _)]) [0, 1, 2, 5, 6, 11, 12, 13, 14, 15, 21, 22, 49, 73, 88, 111] rfl (hJ b14)
           intro b14
           refine WQ.then ?_
           refine W.seq ?_
           refine sr ?_
           refine ov (vlda 32) ?_
           refine ov (vlda 32) ?_
           refine ov (vneqI 3 32 .u8) ?_
           refine omv ?_
           refine oy rfl (by simp) ?_
           refine omv ?_
           refine oy rfl (by simp) ?_
           refine omv ?_
           refine oy rfl (by simp) ?_
           refine ov (v2 V_neq) ?_
           refine ov (V_pick_f rfl (by simp) rfl) ?_
           refine nq ?_
           refine W.cond_false rfl (by simp) ?_
           refine W.skip ?_
           refine WQ.then ?_
           refine W.region ?_
           refine ov (vlda 32) ?_
           refine osta 32 ?_
           refine nx ?_
           refine omv ?_
           refine ov (vfa0 4 69) ?_
           refine ov (vlda 69) ?_
           refine ov (vlda 32) ?_
           refine ov (vfa0 3 1) ?_
           refine ov vld ?_
           refine cgP _ rfl (fun w hp => snd20W b R ticks root hti hrl hrb qs k hq m ck hg o.e o.A o.n o.cap o.b he (tgV (lnk o.e.fr) o.e o.n o.b) tgV_len tgV_bytes o.now hk1 w (HP.here hp cov) (fun w1 M h1 => (hsb w1 _ (HP.transP hp pr h1)))) (fun r148 h148 => ?_)
           simp only [List.cons_append, List.nil_append, List.append_nil, List.append_assoc]
           refine WL.back (stpL R ticks root r148.2.1 r148.2.2) ?_
           simp only [List.cons_append, List.nil_append, List.append_nil, List.append_assoc]
           refine WL.back (accs accP r148.1) ?_
           simp only [List.cons_append, List.nil_append, List.append_nil, List.append_assoc]
           obtain ⟨S1, hS1⟩ : ∃ s, s = wsS root ticks (absO qs) o.e o.n o.b (tgV (lnk o.e.fr) o.e o.n o.b) o.now := ⟨_, rfl⟩
           have hsc : S1.commit.length = 32 := by rw [hS1]; exact wsS_c he.c
           have hst : S1.tag.length = 32 := by rw [hS1]; exact wsS_t
           rw [← hS1]
           unfold stV
           refine omv ?_
           refine ov vex ?_
           refine ov vex ?_
           refine oal [(1, [.int .i64 0]), (1, [.int .i64 0]), (1, [.int .i64 0]), (1, [.int .i64 0]), (32, List.replicate 32 (.int .u8 0)), (32, List.replicate 32 (.int .u8 0))] (fun b16 => ?_)
           refine osta 68 ?_
           refine oas ?_
           refine nx ?_
           refine omv ?_
           refine ov (vfa0 4 69) ?_
           refine ov (vlda 69) ?_
           refine ov (vlda 32) ?_
           refine ov (vfa0 3 1) ?_
           refine ov vld ?_
           refine cgP _ rfl (fun w hp => rsnd20W root hrl hrb ticks hti b2 rs k hr o.e o.A o.n o.cap o.b he (tgV (lnk o.e.fr) o.e o.n o.b) tgV_len tgV_bytes o.now hk1 w (HP.here hp cov) (fun w1 M h1 => (hsb w1 _ (HP.transP hp pr h1)))) (fun r158 h158 => ?_)
           simp only [List.cons_append, List.nil_append, List.append_nil, List.append_assoc]
           refine WL.back (accs accR r158) ?_
           simp only [List.cons_append, List.nil_append, List.append_nil, List.append_assoc]
           rw [← hQ, ← hS1]
           unfold stV
           refine omv ?_
           refine ov vex ?_
           refine ov vex ?_
           refine oal [(1, [.int .i64 0]), (1, [.int .i64 0]), (1, [.int .i64 0]), (1, [.int .i64 0]), (32, List.replicate 32 (.int .u8 0)), (32, List.replicate 32 (.int .u8 0))] (fun b18 => ?_)
           refine osta 68 ?_
           refine oas ?_
           refine nx ?_
           refine ov (vlda 68) ?_
           refine ov (vlda 68) ?_
           refine ov (veqA [(1, 5), (1, 5), (1, 5), (1, 5), (32, 6), (32, 6)]) ?_
           refine omv ?_
           refine oy rfl (by simp) ?_
           refine omv ?_
           refine oy rfl (by simp) ?_
           refine omv ?_
           refine oy rfl (by simp) ?_
           refine ov (v2 V_eql) ?_
           refine ov (V_pick_t rfl (by simp) rfl) ?_
           refine oas ?_
           refine nq ?_
           refine W.ret ?_
           refine WQ.ret1 Try.results27 (.tmp rfl) ?_
           intro w' hp; have e1 := h148.2.2.1
           have e2 := h158.2.2
           rw [← e1, ← e2] at hp
           exact ⟨(r148.1, r148.2.1, r148.2.2, r158), ⟨h148.1, h148.2.2.2, h158.1, by rw [h148.2.1, h158.2.1, hQ]⟩, by first | rfl | (rw [hQ]; simp; done) | (simp [hQ]; done), hp.cov cov⟩
         · refine W.skip ?_
           refine WQ.then ?_
           refine sr ?_
           refine omv ?_
           refine ov (vfa0 4 69) ?_
           refine ov (vlda 69) ?_
           refine ov (vlda 32) ?_
           refine ov (vfa0 3 1) ?_
           refine ov vld ?_
           refine cgP _ rfl (fun w hp => snd20W b R ticks root hti hrl hrb qs k hq m ck hg o.e o.A o.n o.cap o.b he o.tag htl htb o.now hk1 w (HP.here hp cov) (fun w1 M h1 => (hsb w1 _ (HP.transP hp pr h1)))) (fun r148 h148 => ?_)
           simp only [List.cons_append, List.nil_append, List.append_nil, List.append_assoc]
           refine WL.back (stpL R ticks root r148.2.1 r148.2.2) ?_
           simp only [List.cons_append, List.nil_append, List.append_nil, List.append_assoc]
           refine WL.back (accs accP r148.1) ?_
           simp only [List.cons_append, List.nil_append, List.append_nil, List.append_assoc]
           obtain ⟨S1, hS1⟩ : ∃ s, s = wsS root ticks (absO qs) o.e o.n o.b o.tag o.now := ⟨_, rfl⟩
           have hsc : S1.commit.length = 32 := by rw [hS1]; exact wsS_c he.c
           have hst : S1.tag.length = 32 := by rw [hS1]; exact wsS_t
           rw [← hS1]
           unfold stV
           refine omv ?_
           refine ov vex ?_
           refine ov vex ?_
           refine oal [(1, [.int .i64 0]), (1, [.int .i64 0]), (1, [.int .i64 0]), (1, [.int .i64 0]), (32, List.replicate 32 (.int .u8 0)), (32, List.replicate 32 (.int .u8 0))] (fun b16 => ?_)
           refine osta 68 ?_
           refine oas ?_
           refine nx ?_
           refine omv ?_
           refine ov (vfa0 4 69) ?_
           refine ov (vlda 69) ?_
           refine ov (vlda 32) ?_
           refine ov (vfa0 3 1) ?_
           refine ov vld ?_
           refine cgP _ rfl (fun w hp => rsnd20W root hrl hrb ticks hti b2 rs k hr o.e o.A o.n o.cap o.b he o.tag htl htb o.now hk1 w (HP.here hp cov) (fun w1 M h1 => (hsb w1 _ (HP.transP hp pr h1)))) (fun r158 h158 => ?_)
           simp only [List.cons_append, List.nil_append, List.append_nil, List.append_assoc]
           refine WL.back (accs accR r158) ?_
           simp only [List.cons_append, List.nil_append, List.append_nil, List.append_assoc]
           rw [← hQ, ← hS1]
           unfold stV
           refine omv ?_
           refine ov vex ?_
           refine ov vex ?_
           refine oal [(1, [.int .i64 0]), (1, [.int .i64 0]), (1, [.int .i64 0]), (1, [.int .i64 0]), (32, List.replicate 32 (.int .u8 0)), (32, List.replicate 32 (.int .u8 0))] (fun b18 => ?_)
           refine osta 68 ?_
           refine oas ?_
           refine nx ?_
           refine ov (vlda 68) ?_
           refine ov (vlda 68) ?_
           refine ov (veqA [(1, 5), (1, 5), (1, 5), (1, 5), (32, 6), (32, 6)]) ?_
           refine omv ?_
           refine oy rfl (by simp) ?_
           refine omv ?_
           refine oy rfl (by simp) ?_
           refine omv ?_
           refine oy rfl (by simp) ?_
           refine ov (v2 V_eql) ?_
           refine ov (V_pick_t rfl (by simp) rfl) ?_
           refine oas ?_
           refine nq ?_
           refine W.ret ?_
           refine WQ.ret1 Try.results27 (.tmp rfl) ?_
           intro w' hp; have e1 := h148.2.2.1
           have e2 := h158.2.2
           rw [← e1, ← e2] at hp
           exact ⟨(r148.1, r148.2.1, r148.2.2, r158), ⟨h148.1, h148.2.2.2, h158.1, by rw [h148.2.1, h158.2.1, hQ]⟩, by first | rfl | (rw [hQ]; simp; done) | (simp [hQ]; done), hp.cov cov⟩

end Go.Proofs.Ytmeckbjinmgbbaa