/- stamp: new relays, checks, bytes; and the document's answer. -/
import Derived.Test.YtmeckbjinmgbbaaGreatStamp
import Derived.Test.YtmeckbjinmgbbaaGreatSum
set_option linter.unusedVariables false
set_option linter.unusedSimpArgs false

namespace Go.Proofs.YtmeckbjinmgbbaaGreat
open Go.X
theorem right_bd {s : StampS} (h : rightB s = true) : (0 ≤ s.epoch ∧ s.epoch ≤ 1000000) ∧ (0 ≤ s.time ∧ s.time ≤ 1000000) ∧ (0 ≤ s.fr ∧ s.fr < 8) ∧ (0 ≤ s.to ∧ s.to < 8) := by
  simp only [rightB, timeB, acB, Bool.and_eq_true, decide_eq_true_eq] at h
  exact ⟨h.1.1.1, h.1.1.2, h.1.2, h.2⟩
def bytesL (s : StampS) : List Int := highF s.epoch 4 ++ [s.fr, s.to] ++ highF s.time 4 ++ s.commit ++ s.tag
def bN (s : StampS) : Nat := if rightB s then 74 else 0
def bF (s : StampS) : List Int := if rightB s then bytesL s else []
theorem bN_t {s : StampS} (h : rightB s = true) : bN s = 74 := by rw [bN, if_pos h]
theorem bN_f {s : StampS} (h : rightB s = false) : bN s = 0 := by rw [bN, if_neg (by simp [h])]
theorem bF_t {s : StampS} (h : rightB s = true) : bF s = bytesL s := by rw [bF, if_pos h]
theorem chk_ok {root : List Int} {ticks now : Int} {s : StampS} (h : rightB s = true) (h2 : timeB now = true) : checkF root ticks s now = if s.epoch ≠ s.time / ticks ∨ tagF root s ≠ s.tag then 4 else if now < s.time ∨ now > s.time + 50 then 5 else 0 := by
  unfold checkF; rw [h, h2]; rfl
theorem chk_bad {root : List Int} {ticks now : Int} {s : StampS} (h : rightB s = false ∨ timeB now = false) : checkF root ticks s now = 1 := by
  unfold checkF; rcases h with h | h <;> simp [h]
theorem chk4 {root : List Int} {ticks now : Int} {s : StampS} (h : rightB s = true) (h2 : timeB now = true) (h3 : s.epoch ≠ s.time / ticks ∨ tagF root s ≠ s.tag) : checkF root ticks s now = 4 := by rw [chk_ok h h2, if_pos h3]
theorem chk5 {root : List Int} {ticks now : Int} {s : StampS} (h : rightB s = true) (h2 : timeB now = true) (h3 : s.epoch = s.time / ticks) (h4 : tagF root s = s.tag) (h5 : now < s.time ∨ now > s.time + 50) : checkF root ticks s now = 5 := by
  rw [chk_ok h h2, if_neg (by rintro (e | e); exact e h3; exact e h4), if_pos h5]
theorem chk0 {root : List Int} {ticks now : Int} {s : StampS} (h : rightB s = true) (h2 : timeB now = true) (h3 : s.epoch = s.time / ticks) (h4 : tagF root s = s.tag) (h5 : ¬ (now < s.time ∨ now > s.time + 50)) : checkF root ticks s now = 0 := by
  rw [chk_ok h h2, if_neg (by rintro (e | e); exact e h3; exact e h4), if_neg h5]

theorem new16_calls (rl : List Int) (ticks : Int) (hl : rl.length = 32) (ht : 1 ≤ ticks ∧ ticks ≤ 1000000) (w : World) :
    Calls Tryz.prog 27 [AG [(32, iv .u8 rl)], .int .i64 ticks].toArray w fun e w' => ∃ r : Rel, True ∧ e = .returned (.tuple #[.pointer (some ⟨r.r, 0, none⟩), .int .i64 0]) ∧ HP w w' [] [(r.r, .cells [(1, [.int .i64 ticks]), (1, [.map (some r.m)]), (1, [.func (.func 56) #[] #[.pointer (some ⟨r.v, 0, none⟩), .pointer (some ⟨r.k, 0, none⟩)]])] 141), (r.m, .obj (mapO .i64 [] 0)), (r.v, .cells [(1, [.pointer (some ⟨r.r, 0, none⟩)])] 75), (r.k, .cells [(32, iv .u8 rl)] 23)] := by
 refine calls_of_W Tryz.func27 rfl Tryz.ntmps27 rfl rfl (HP.refl w []) ?_
 refine sr ?_
 refine obxa (fun b2 => ?_)
 refine oas ?_
 refine oas ?_
 refine nq ?_
 refine W.seq ?_
 refine sr ?_
 refine omv ?_
 refine ov (v2 V_lss) ?_
 refine omv ?_
 refine oy rfl (decide_eq_false (by omega)) ?_
 refine omv ?_
 refine oy rfl (decide_eq_false (by omega)) ?_
 refine ov (v2 V_gtr) ?_
 refine ov (V_pick_f rfl (decide_eq_false (by omega)) rfl) ?_
 refine nq ?_
 refine W.cond_false rfl (decide_eq_false (by omega)) ?_
 refine W.skip ?_
 refine WQ.then ?_
 refine sr ?_
 refine omv ?_
 refine omk (fun b14 => ?_)
 refine ov (V_build (by kernel_rfl) (zi (zs := [(1, [.int .i64 0]), (1, [.map none]), (1, [.nilFunc])])) (.one (k := 0) rfl rfl (by kernel_rfl) rfl (.one (k := 1) rfl rfl (by kernel_rfl) rfl (.nil _)))) ?_
 refine obxa (fun b16 => ?_)
 refine oal [(1, [.pointer none])] (fun b6 => ?_)
 refine ost ?_
 refine nx ?_
 refine ov vld ?_
 refine ov V_makeFunc ?_
 refine ov vnil ?_
 refine ov (vfa0 2 1) ?_
 refine ost ?_
 refine nx ?_
 refine ov vld ?_
 refine oas ?_
 refine oas ?_
 refine nq ?_
 refine W.ret ?_
 refine WQ.ret2 Tryz.results27 (.tmp rfl) (.tmp rfl) ?_
 intro w' hp; exact ⟨⟨b16, b14, b6, b2⟩, trivial, rfl, hp.cov cov⟩

theorem chk16_calls (s : StampS) (now : Int) (hc : s.commit.length = 32) (hcb : bytes s.commit) (ht : s.tag.length = 32) (htb : bytes s.tag) (R : Rel) (ticks : Int) (root : List Int) (m : List Ent) (clock : Nat) (w : World) (hR : RelAt w R ticks root) (hm : (Blk.obj (mapO .i64 m clock)).Is w.heap[R.m]?) (hg : Good root m) (hl : root.length = 32) (hrb : bytes root) (hti : 1 ≤ ticks) :
    Calls Tryz.prog 68 [.pointer (some ⟨R.r, 0, none⟩), AG (stV s), .int .i64 now].toArray w fun e w' => ∃ r : List Ent × Nat, Good root r.1 ∧ e = .returned (.int .i64 (checkF root ticks s now)) ∧ HP w w' [R.m] [(R.m, .obj (mapO .i64 r.1 r.2))] := by
 obtain ⟨hr, hv, hk⟩ := hR
 have hne1 : R.r ≠ R.m := hr.neObj hm
 have hne2 : R.v ≠ R.m := hv.neObj hm
 have hne3 : R.k ≠ R.m := hk.neObj hm
 unfold stV
 refine calls_of_W Tryz.func68 rfl Tryz.ntmps68 rfl rfl (HP.start1 hm) ?_
 refine sr ?_
 refine obxa (fun b4 => ?_)
 refine oas ?_
 refine nq ?_
 refine W.seq ?_
 refine sr ?_
 refine ov (vlda 68) ?_
 refine cp rfl (fun w hp => right_calls s hc ht w) ?_
 refine ov vnot ?_
 refine omv ?_
 refine WL.split rfl (fun g1 => ?_) (fun g1 => ?_)
 · refine on rfl g1 ?_
   refine on rfl g1 ?_
   refine on rfl g1 ?_
   refine ov (V_pick_t rfl g1 rfl) ?_
   refine nq ?_
   refine W.cond_true rfl rfl ?_
   refine sr ?_
   refine oas ?_
   refine nq ?_
   refine W.ret ?_
   refine WQ.then_ret ?_
   refine WQ.ret1 Tryz.results68 (.tmp rfl) ?_
   intro w' hp; rw [chk_bad (.inl (by simpa using g1))]; exact ⟨(m, clock), hg, rfl, hp.cov cov⟩
 · refine oy rfl g1 ?_
   refine omv ?_
   refine oy rfl g1 ?_
   refine cp rfl (fun w hp => time_calls _ w) ?_
   refine oy rfl g1 ?_
   refine ov vnot ?_
   refine ov (V_pick_f rfl g1 rfl) ?_
   refine nq ?_
   refine W.cond rfl (fun g2 => ?_) (fun g2 => ?_)
   · refine W.seq ?_
     refine W.region ?_
     refine oas ?_
     refine nq ?_
     refine W.ret ?_
     refine WQ.then_ret ?_
     refine WQ.ret1 Tryz.results68 (.tmp rfl) ?_
     intro w' hp; rw [chk_bad (.inr (by simpa using g2))]; exact ⟨(m, clock), hg, rfl, hp.cov cov⟩
   · refine W.skip ?_
     refine WQ.then ?_
     refine sr ?_
     have hrr : rightB s = true := by simpa using g1
     have htt : timeB now = true := by simpa using g2
     have hb := right_bd hrr
     have hn := time_bd htt
     refine omv ?_
     refine ov (vlda 68) ?_
     refine cg rfl (fun w hp => tag16_calls s hc hcb ht (by omega) (by omega) R ticks root m clock w rat (hh hp) hg hl hrb) (fun b18 h18 => ?_)
     refine oal [(32, List.replicate 32 (.int .u8 0))] (fun b7 => ?_)
     refine osta 32 ?_
     refine nq ?_
     refine W.seq ?_
     refine W.block ?_
     refine W.seq ?_
     by_cases hq : s.epoch = s.time / ticks
     · refine dr (.q 0 (.q 1 (.q 2 (.q 3 (.q 4 (.q 5 (.q 6 (.q 7 (.q 8 (.q 9 (.q 10 (.q 11 (.q 12 (.q 13 (.l 14 (.q 15 (.q 16 (.q 17 (.done))))))))))))))))))) [(b4, _)] ?_
       refine dq rfl (vfa0 0 1) ?_
       refine dq rfl vld ?_
       refine dq rfl (vfa0 3 1) ?_
       refine dq rfl vld ?_
       refine dq rfl (V_move rfl) ?_
       refine dq rfl vnil ?_
       refine dq rfl (vfa0 0 1) ?_
       refine dq rfl vld ?_
       first | refine dq rfl vquo ?_ | refine dq rfl (V_quo rfl rfl (by omega)) ?_
       refine dq rfl (v2 V_neq) ?_
       refine dq rfl (V_move rfl) ?_
       refine dy rfl rfl (decide_eq_false (by simpa using hq)) (vslF 1 32) ?_
       refine dy rfl rfl (decide_eq_false (by simpa using hq)) (vfa0 36 32) ?_
       refine dy rfl rfl (decide_eq_false (by simpa using hq)) (vslF 1 32) ?_
       refine WD.l ?_
       refine dcp rfl rfl (fun w hp => same_calls _ _ _ _ _ _ _ _ w sw sc sw sc sc) ?_ (hg := gy rfl (decide_eq_false (by simpa using hq)))
       refine dy rfl rfl (decide_eq_false (by simpa using hq)) vnot ?_
       refine dq rfl (V_pick_f rfl (decide_eq_false (by simpa using hq)) rfl) ?_
       refine dq rfl (V_assign rfl) ?_
       refine WD.done ?_
       refine WQ.then ?_
       refine W.cond rfl (fun g3 => ?_) (fun g3 => ?_)
       · refine W.seq ?_
         refine W.region ?_
         refine oas ?_
         refine nq ?_
         refine W.ret ?_
         refine WQ.block_ret ?_
         refine WQ.then_ret ?_
         refine WQ.ret1 Tryz.results68 (.tmp rfl) ?_
         intro w' hp; rw [chk4 hrr htt (.inr (by simp_all))]; exact ⟨b18, h18, rfl, hp.cov cov⟩
       · refine W.seq ?_
         refine W.region ?_
         refine omv ?_
         refine ov (vfa0 3 1) ?_
         refine ov vld ?_
         refine ov (v2 V_lss) ?_
         refine omv ?_
         refine WL.splitD rfl (fun g4 => ?_) (fun g4 => ?_)
         · refine on rfl (decide_eq_true g4) ?_
           refine on rfl (decide_eq_true g4) ?_
           refine on rfl (decide_eq_true g4) ?_
           refine on rfl (decide_eq_true g4) ?_
           refine on rfl (decide_eq_true g4) ?_
           refine ov (V_pick_td rfl g4 rfl) ?_
           refine oas ?_
           refine nq ?_
           refine W.cond_true rfl rfl ?_
           refine sr ?_
           refine oas ?_
           refine nq ?_
           refine W.ret ?_
           refine WQ.block_ret ?_
           refine WQ.then_ret ?_
           refine WQ.ret1 Tryz.results68 (.tmp rfl) ?_
           intro w' hp; rw [chk5 hrr htt hq (by simp_all) (by omega)]; exact ⟨b18, h18, rfl, hp.cov cov⟩
         · refine oy rfl (decide_eq_false g4) ?_
           refine omv ?_
           refine oy rfl (decide_eq_false g4) ?_
           refine ov (vfa0 3 1) ?_
           refine oy rfl (decide_eq_false g4) ?_
           refine ov vld ?_
           refine oy rfl (decide_eq_false g4) ?_
           first | refine ov vsubN ?_ | refine ov vsub ?_
           refine oy rfl (decide_eq_false g4) ?_
           refine ov (v2 V_gtr) ?_
           refine ov (V_pick_fd rfl g4 rfl) ?_
           refine oas ?_
           refine nq ?_
           refine W.cond_dec rfl (fun g5 => ?_) (fun g5 => ?_)
           · refine W.seq ?_
             refine W.region ?_
             refine oas ?_
             refine nq ?_
             refine W.ret ?_
             refine WQ.block_ret ?_
             refine WQ.then_ret ?_
             refine WQ.ret1 Tryz.results68 (.tmp rfl) ?_
             intro w' hp; rw [chk5 hrr htt hq (by simp_all) (by omega)]; exact ⟨b18, h18, rfl, hp.cov cov⟩
           · refine W.skip ?_
             refine WQ.block_normal ?_
             refine WQ.then ?_
             refine sr ?_
             refine oas ?_
             refine nq ?_
             refine W.ret ?_
             refine WQ.ret1 Tryz.results68 (.tmp rfl) ?_
             intro w' hp; rw [chk0 hrr htt hq (by simp_all) (by omega)]; exact ⟨b18, h18, rfl, hp.cov cov⟩
     · refine dr (.q 0 (.q 1 (.q 2 (.q 3 (.q 4 (.q 5 (.q 6 (.q 7 (.q 8 (.q 9 (.q 10 (.q 11 (.q 12 (.q 13 (.l 14 (.q 15 (.q 16 (.q 17 (.done))))))))))))))))))) [(b4, _)] ?_
       refine dq rfl (vfa0 0 1) ?_
       refine dq rfl vld ?_
       refine dq rfl (vfa0 3 1) ?_
       refine dq rfl vld ?_
       refine dq rfl (V_move rfl) ?_
       refine dq rfl vnil ?_
       refine dq rfl (vfa0 0 1) ?_
       refine dq rfl vld ?_
       first | refine dq rfl vquo ?_ | refine dq rfl (V_quo rfl rfl (by omega)) ?_
       refine dq rfl (v2 V_neq) ?_
       refine dq rfl (V_move rfl) ?_
       refine dn rfl rfl (decide_eq_true (by simpa using hq)) ?_
       refine dn rfl rfl (decide_eq_true (by simpa using hq)) ?_
       refine dn rfl rfl (decide_eq_true (by simpa using hq)) ?_
       refine WD.l ?_
       refine dno rfl rfl (decide_eq_true (by simpa using hq)) ?_
       refine dn rfl rfl (decide_eq_true (by simpa using hq)) ?_
       refine dq rfl (V_pick_t rfl (decide_eq_true (by simpa using hq)) rfl) ?_
       refine dq rfl (V_assign rfl) ?_
       refine WD.done ?_
       refine WQ.then ?_
       refine W.cond_true rfl rfl ?_
       refine sr ?_
       refine oas ?_
       refine nq ?_
       refine W.ret ?_
       refine WQ.block_ret ?_
       refine WQ.then_ret ?_
       refine WQ.ret1 Tryz.results68 (.tmp rfl) ?_
       intro w' hp; rw [chk4 hrr htt (.inl hq)]; exact ⟨b18, h18, rfl, hp.cov cov⟩

theorem numH_bd4 {l : List Int} (hb : bytes l) (h : l.length ≤ 4) : 0 ≤ numH (l.take 8) ∧ numH (l.take 8) ≤ 4294967295 := by
  have := numH_bd hb l.length (Nat.le_refl _) (by omega)
  rw [List.take_of_length_le (Nat.le_refl _)] at this
  rw [List.take_of_length_le (by omega)]
  omega
def readS (l : List Int) : StampS := ⟨numH ((l.take 4).take 8), l.getD 4 0, l.getD 5 0, numH (((l.drop 6).take (10 - 6)).take 8), (l.drop 10).take 32, (l.drop 42).take 32⟩
def readE (l : List Int) : Int := if l.length < 74 then 3 else if 74 < l.length ∨ rightB (readS l) = false then 2 else 0
def readF (l : List Int) : StampS := if readE l = 0 then readS l else StampS.zero
theorem readE3 {l : List Int} (h : l.length < 74) : readE l = 3 := if_pos h
theorem readE2 {l : List Int} (h : ¬ l.length < 74) (h2 : 74 < l.length ∨ rightB (readS l) = false) : readE l = 2 := by unfold readE; rw [if_neg h, if_pos h2]
theorem readE0 {l : List Int} (h : ¬ l.length < 74) (h2 : ¬ (74 < l.length ∨ rightB (readS l) = false)) : readE l = 0 := by unfold readE; rw [if_neg h, if_neg h2]
theorem readFb {l : List Int} {e : Int} (h : readE l = e) (he : e ≠ 0) : readF l = StampS.zero := by unfold readF; rw [if_neg (by rw [h]; exact he)]
theorem readFg {l : List Int} (h : readE l = 0) : readF l = readS l := by unfold readF; rw [if_pos h]
theorem readS_c {l : List Int} (h : 74 ≤ l.length) : (readS l).commit.length = 32 := by simp [readS]; omega
theorem readS_t {l : List Int} (h : 74 ≤ l.length) : (readS l).tag.length = 32 := by simp [readS]; omega

theorem sbytes_calls (s : StampS) (hc : s.commit.length = 32) (hcb : bytes s.commit) (ht : s.tag.length = 32) (htb : bytes s.tag) (w : World) :
    Calls Tryz.prog 106 [AG (stV s)].toArray w fun e w' => ∃ o : Gr, GrOK o (bN s) ∧ e = .returned (.tuple #[.slice (gA o) (bN s) (gC o), .int .i64 (if rightB s then 0 else 1)]) ∧ HP w w' [] (gL o (bN s) (iv .u8 (bF s)) 5) := by
 unfold stV
 refine calls_of_W Tryz.func106 rfl Tryz.ntmps106 rfl rfl (HP.refl w []) ?_
 refine sr ?_
 refine obxa (fun b1 => ?_)
 refine oas ?_
 refine oas ?_
 refine nq ?_
 refine W.seq ?_
 refine sr ?_
 refine ov (vlda 68) ?_
 refine cp rfl (fun w hp => right_calls s hc ht w) ?_
 refine ov vnot ?_
 refine nq ?_
 refine W.cond rfl (fun g1 => ?_) (fun g1 => ?_)
 · refine W.seq ?_
   refine W.region ?_
   refine oas ?_
   refine oas ?_
   refine nq ?_
   refine W.ret ?_
   refine WQ.then_ret ?_
   refine WQ.ret2 Tryz.results106 (.tmp rfl) (.tmp rfl) ?_
   intro w' hp; have hrr : rightB s = false := by simpa using g1
   rw [bN_f hrr, hrr]; exact ⟨none, rfl, rfl, hp.cov cov⟩
 · refine W.skip ?_
   refine WQ.then ?_
   refine W.seq ?_
   have hrr : rightB s = true := by simpa using g1
   have hb := right_bd hrr
   apply W.j7
   · intro hJ
     refine dr (.q 0 (.q 1 (.q 2 (.q 4 (.q 5 (.q 6 (.q 7 (.q 8 (.q 9 (.l2 3 (.l 10 (.l 11 (.q 12 (.done)))) 10 (.l 3 (.l 11 (.q 12 (.done)))))))))))))) [(b1, _)] ?_
     refine dq rfl (vfa0 0 1) ?_
     refine dq rfl vld ?_
     first | refine dq rfl (vcvN .u64) ?_ | refine dq rfl (vcv .u64) ?_
     refine dq rfl (vfa0 1 1) ?_
     refine dq rfl vld ?_
     first | refine dq rfl (vcvN .u8) ?_ | refine dq rfl (vcv .u8) ?_
     refine dq rfl (vfa0 2 1) ?_
     refine dq rfl vld ?_
     first | refine dq rfl (vcvN .u8) ?_ | refine dq rfl (vcv .u8) ?_
     refine WD.l2 ?_ ?_
     · refine dcg rfl rfl (fun w hp => high_calls _ 4 w sc) (fun b11 h11 => ?_)
       refine WD.l ?_
       refine dbsI (k := .u8) rfl 5 1 [_, _] (fun b18 => ?_)
       refine WD.l ?_
       refine dap rfl 5 1 (fun b19 c19 r19 h19 => ?_)
       refine dq rfl (V_assign rfl) ?_
       refine WD.done ?_
       exact WQ.pick (S' := [(0, _), (1, _), (2, _), (3, _), (4, _), (7, _)]) [0, 1, 2, 3, 4, 7] rfl (hJ b11 h11 b18 b19 c19 r19 h19)
     · refine dbsI (k := .u8) rfl 5 1 [_, _] (fun b18 => ?_)
       refine WD.l ?_
       refine dcg rfl rfl (fun w hp => high_calls _ 4 w sc) (fun b11 h11 => ?_)
       refine WD.l ?_
       refine dap rfl 5 1 (fun b19 c19 r19 h19 => ?_)
       refine dq rfl (V_assign rfl) ?_
       refine WD.done ?_
       exact WQ.pick (S' := [(0, _), (1, _), (2, _), (3, _), (4, _), (7, _)]) [0, 1, 2, 3, 4, 7] rfl (hJ b11 h11 b18 b19 c19 r19 h19)
   intro b11 h11 b18 b19 c19 r19 h19
   refine WQ.then ?_
   refine sr ?_
   refine omv ?_
   refine ov (vfa0 3 1) ?_
   refine ov vld ?_
   first | refine ov (vcvN .u64) ?_ | refine ov (vcv .u64) ?_
   refine cg rfl (fun w hp => high_calls _ 4 w sc) (fun b24 h24 => ?_)
   refine oap 5 1 (fun b25 c25 r25 h25 => ?_)
   refine oas ?_
   refine nq ?_
   refine W.seq ?_
   refine dr (.q 0 (.q 1 (.q 2 (.q 4 (.q 5 (.l 3 (.l 6 (.q 7 (.q 8 (.done)))))))))) [] ?_
   refine dq rfl (V_move rfl) ?_
   refine dq rfl (vfa0 4 32) ?_
   refine dq rfl (vslF 1 32) ?_
   refine dq rfl (vfa0 36 32) ?_
   refine dq rfl (vslF 1 32) ?_
   refine WD.l ?_
   refine dap rfl 5 1 (fun b29 c29 r29 h29 => ?_)
   refine WD.l ?_
   refine dap rfl 5 1 (fun b32 c32 r32 h32 => ?_)
   refine dq rfl (V_assign rfl) ?_
   refine dq rfl (V_assign rfl) ?_
   refine WD.done ?_
   refine WQ.then ?_
   refine W.ret ?_
   refine WQ.ret2 Tryz.results106 (.tmp rfl) (.tmp rfl) ?_
   intro w' hp; rw [bN_t hrr, hrr, bF_t hrr]; exact ⟨some (b32, c32, r32), h32, rfl, hp.cov cov⟩

theorem sread_calls (A : Option Addr) (n cap : Nat) (l : List Int) (w : World) (hs : SrW w 1 A n (iv .u8 l)) (hb : bytes l) (hc : n ≤ cap) (hn : n ≤ 1000000) :
    Calls Tryz.prog 105 [.slice A n cap].toArray w fun e w' => e = .returned (.tuple #[AG (stV (readF l)), .int .i64 (readE l)]) ∧ HP w w' [] [] := by
 have hl := SrW.ilen hs
 refine calls_of_W Tryz.func105 rfl Tryz.ntmps105 rfl rfl (HP.refl w []) ?_
 refine sr ?_
 refine oal [(1, [.int .i64 0]), (1, [.int .i64 0]), (1, [.int .i64 0]), (1, [.int .i64 0]), (32, List.replicate 32 (.int .u8 0)), (32, List.replicate 32 (.int .u8 0))] (fun b2 => ?_)
 refine oas ?_
 refine nq ?_
 refine W.seq ?_
 refine sr ?_
 refine omv ?_
 refine ov vlenS ?_
 refine ov (v2 V_lss) ?_
 refine nq ?_
 refine W.cond_dec rfl (fun g1 => ?_) (fun g1 => ?_)
 · refine W.seq ?_
   refine W.region ?_
   refine ov (V_build (by kernel_rfl) (zi (zs := [(1, [.int .i64 0]), (1, [.int .i64 0]), (1, [.int .i64 0]), (1, [.int .i64 0]), (32, List.replicate 32 (.int .u8 0)), (32, List.replicate 32 (.int .u8 0))])) (.nil _)) ?_
   refine osta 68 ?_
   refine oas ?_
   refine nq ?_
   refine W.ret ?_
   refine WQ.then_ret ?_
   refine WQ.ret2 Tryz.results105 (.cellA 68 (by kernel_rfl) rfl at_ (by rfl)) (.tmp rfl) ?_
   intro w' hp; have he := readE3 (l := l) (by omega)
   rw [readFb he (by decide), he]; exact ⟨rfl, hp.forget⟩
 · refine W.skip ?_
   refine WQ.then ?_
   refine W.seq ?_
   have h4 := numH_bd4 (hb.take 4) (by simp; omega)
   have h6 := numH_bd4 ((hb.drop 6).take (10 - 6)) (by simp; omega)
   have g4 := hb.get 4
   have g5 := hb.get 5
   obtain ⟨bbA, ooA, rfl⟩ := hs.hasN sc
   apply W.j1
   · intro hJ
     refine dr (.q 0 (.q 1 (.q 4 (.q 5 (.q 6 (.q 7 (.q 8 (.q 9 (.q 10 (.q 11 (.q 12 (.q 13 (.l2 2 (.q 3 (.l2 14 (.q 15 (.q 16 (.l 17 (.l 18 (.done))))) 17 (.l 14 (.q 15 (.q 16 (.l 18 (.done))))))) 17 (.l 2 (.q 3 (.l 14 (.q 15 (.q 16 (.l 18 (.done)))))))))))))))))))) [] ?_
     refine dq rfl (V_move rfl) ?_
     refine dq rfl (vsl0 (h := 4) 1) ?_
     refine dq rfl (V_move rfl) ?_
     refine dq rfl (viS1 (j := 4)) ?_
     refine dq rfl (vldS _) ?_
     first | refine dq rfl (vcvN .i64) ?_ | refine dq rfl (vcv .i64) ?_
     refine dq rfl (V_move rfl) ?_
     refine dq rfl (viS1 (j := 5)) ?_
     refine dq rfl (vldS _) ?_
     first | refine dq rfl (vcvN .i64) ?_ | refine dq rfl (vcv .i64) ?_
     refine dq rfl (V_move rfl) ?_
     refine dq rfl (vsl (l := 6) (h := 10) 1) ?_
     refine WD.l2 ?_ ?_
     · refine dcp rfl rfl (fun w hp => ofHigh_calls _ _ _ _ w sw sc sc sc) ?_
       first | refine dq rfl (vcvN .i64) ?_ | refine dq rfl (vcv .i64) ?_
       refine WD.l2 ?_ ?_
       · refine dcp rfl rfl (fun w hp => ofHigh_calls _ _ _ _ w sw sc sc sc) ?_
         first | refine dq rfl (vcvN .i64) ?_ | refine dq rfl (vcv .i64) ?_
         refine dq rfl (V_build (by kernel_rfl) (zi (zs := [(1, [.int .i64 0]), (1, [.int .i64 0]), (1, [.int .i64 0]), (1, [.int .i64 0]), (32, List.replicate 32 (.int .u8 0)), (32, List.replicate 32 (.int .u8 0))])) (.one (k := 0) rfl rfl (by kernel_rfl) rfl (.one (k := 1) rfl rfl (by kernel_rfl) rfl (.one (k := 2) rfl rfl (by kernel_rfl) rfl (.one (k := 3) rfl rfl (by kernel_rfl) rfl (.nil _)))))) ?_
         refine WD.l ?_
         refine dal rfl [(1, [.int .i64 0]), (1, [.int .i64 0]), (1, [.int .i64 0]), (1, [.int .i64 0]), (32, List.replicate 32 (.int .u8 0)), (32, List.replicate 32 (.int .u8 0))] (fun b4 => ?_)
         refine WD.l ?_
         refine dsta rfl 68 ?_
         refine WD.done ?_
         exact WQ.pick (S' := [(0, _), (2, _), (3, _), (4, _), (7, _)]) [0, 2, 3, 4, 7] rfl (hJ b4)
       · refine dal rfl [(1, [.int .i64 0]), (1, [.int .i64 0]), (1, [.int .i64 0]), (1, [.int .i64 0]), (32, List.replicate 32 (.int .u8 0)), (32, List.replicate 32 (.int .u8 0))] (fun b4 => ?_)
         refine WD.l ?_
         refine dcp rfl rfl (fun w hp => ofHigh_calls _ _ _ _ w sw sc sc sc) ?_
         first | refine dq rfl (vcvN .i64) ?_ | refine dq rfl (vcv .i64) ?_
         refine dq rfl (V_build (by kernel_rfl) (zi (zs := [(1, [.int .i64 0]), (1, [.int .i64 0]), (1, [.int .i64 0]), (1, [.int .i64 0]), (32, List.replicate 32 (.int .u8 0)), (32, List.replicate 32 (.int .u8 0))])) (.one (k := 0) rfl rfl (by kernel_rfl) rfl (.one (k := 1) rfl rfl (by kernel_rfl) rfl (.one (k := 2) rfl rfl (by kernel_rfl) rfl (.one (k := 3) rfl rfl (by kernel_rfl) rfl (.nil _)))))) ?_
         refine WD.l ?_
         refine dsta rfl 68 ?_
         refine WD.done ?_
         exact WQ.pick (S' := [(0, _), (2, _), (3, _), (4, _), (7, _)]) [0, 2, 3, 4, 7] rfl (hJ b4)
     · refine dal rfl [(1, [.int .i64 0]), (1, [.int .i64 0]), (1, [.int .i64 0]), (1, [.int .i64 0]), (32, List.replicate 32 (.int .u8 0)), (32, List.replicate 32 (.int .u8 0))] (fun b4 => ?_)
       refine WD.l ?_
       refine dcp rfl rfl (fun w hp => ofHigh_calls _ _ _ _ w sw sc sc sc) ?_
       first | refine dq rfl (vcvN .i64) ?_ | refine dq rfl (vcv .i64) ?_
       refine WD.l ?_
       refine dcp rfl rfl (fun w hp => ofHigh_calls _ _ _ _ w sw sc sc sc) ?_
       first | refine dq rfl (vcvN .i64) ?_ | refine dq rfl (vcv .i64) ?_
       refine dq rfl (V_build (by kernel_rfl) (zi (zs := [(1, [.int .i64 0]), (1, [.int .i64 0]), (1, [.int .i64 0]), (1, [.int .i64 0]), (32, List.replicate 32 (.int .u8 0)), (32, List.replicate 32 (.int .u8 0))])) (.one (k := 0) rfl rfl (by kernel_rfl) rfl (.one (k := 1) rfl rfl (by kernel_rfl) rfl (.one (k := 2) rfl rfl (by kernel_rfl) rfl (.one (k := 3) rfl rfl (by kernel_rfl) rfl (.nil _)))))) ?_
       refine WD.l ?_
       refine dsta rfl 68 ?_
       refine WD.done ?_
       exact WQ.pick (S' := [(0, _), (2, _), (3, _), (4, _), (7, _)]) [0, 2, 3, 4, 7] rfl (hJ b4)
   intro b4
   refine WQ.then ?_
   refine W.seq ?_
   refine dr (.q 0 (.q 1 (.q 2 (.q 3 (.q 4 (.q 5 (.q 6 (.q 7 (.q 8 (.l 9 (.q 10 (.l 11 (.done))))))))))))) [] ?_
   refine dq rfl (V_move rfl) ?_
   refine dq rfl (vsl (l := 10) (h := 42) 1) ?_
   refine dq rfl (vs2p 32) ?_
   refine dq rfl (vldAS 32) ?_
   refine dq rfl (V_move rfl) ?_
   refine dq rfl (vsl (l := 42) (h := 74) 1) ?_
   refine dq rfl (vs2p 32) ?_
   refine dq rfl (vldAS 32) ?_
   refine dq rfl (vfa0 4 32) ?_
   refine WD.l ?_
   refine dsta rfl 32 ?_
   refine dq rfl (vfa0 36 32) ?_
   refine WD.l ?_
   refine dsta rfl 32 ?_
   refine WD.done ?_
   refine WQ.then ?_
   refine W.seq ?_
   refine sr ?_
   refine omv ?_
   refine ov vlenS ?_
   refine ov (v2 V_gtr) ?_
   refine omv ?_
   refine WL.splitD rfl (fun g2 => ?_) (fun g2 => ?_)
   · refine on rfl (decide_eq_true g2) ?_
     refine on rfl (decide_eq_true g2) ?_
     refine on rfl (decide_eq_true g2) ?_
     refine ov (V_pick_td rfl g2 rfl) ?_
     refine nq ?_
     refine W.cond_true rfl rfl ?_
     refine sr ?_
     refine ov (V_build (by kernel_rfl) (zi (zs := [(1, [.int .i64 0]), (1, [.int .i64 0]), (1, [.int .i64 0]), (1, [.int .i64 0]), (32, List.replicate 32 (.int .u8 0)), (32, List.replicate 32 (.int .u8 0))])) (.nil _)) ?_
     refine osta 68 ?_
     refine oas ?_
     refine nq ?_
     refine W.ret ?_
     refine WQ.then_ret ?_
     refine WQ.ret2 Tryz.results105 (.cellA 68 (by kernel_rfl) rfl at_ (by rfl)) (.tmp rfl) ?_
     intro w' hp; have he := readE2 (l := l) (by omega) (.inl (by omega))
     rw [readFb he (by decide), he]; exact ⟨rfl, hp.forget⟩
   · refine oy rfl (decide_eq_false g2) ?_
     refine ov (vlda 68) ?_
     refine oy rfl (decide_eq_false g2) ?_
     refine cp rfl (fun w hp => right_calls (readS l) (readS_c (by omega)) (readS_t (by omega)) w) ?_
     refine oy rfl (decide_eq_false g2) ?_
     refine ov vnot ?_
     refine ov (V_pick_fd rfl g2 rfl) ?_
     refine nq ?_
     refine W.cond rfl (fun g3 => ?_) (fun g3 => ?_)
     · refine W.seq ?_
       refine W.region ?_
       refine ov (V_build (by kernel_rfl) (zi (zs := [(1, [.int .i64 0]), (1, [.int .i64 0]), (1, [.int .i64 0]), (1, [.int .i64 0]), (32, List.replicate 32 (.int .u8 0)), (32, List.replicate 32 (.int .u8 0))])) (.nil _)) ?_
       refine osta 68 ?_
       refine oas ?_
       refine nq ?_
       refine W.ret ?_
       refine WQ.then_ret ?_
       refine WQ.ret2 Tryz.results105 (.cellA 68 (by kernel_rfl) rfl at_ (by rfl)) (.tmp rfl) ?_
       intro w' hp; have he := readE2 (l := l) (by omega) (.inr (by simp_all))
       rw [readFb he (by decide), he]; exact ⟨rfl, hp.forget⟩
     · refine W.skip ?_
       refine WQ.then ?_
       refine sr ?_
       refine ov (vlda 68) ?_
       refine osta 68 ?_
       refine oas ?_
       refine nq ?_
       refine W.ret ?_
       refine WQ.ret2 Tryz.results105 (.cellA 68 (by kernel_rfl) rfl at_ (by rfl)) (.tmp rfl) ?_
       intro w' hp; have he := readE0 (l := l) (by omega) (by rintro (e | e); omega; simp_all)
       rw [readFg he, he]; exact ⟨rfl, hp.forget⟩

end Go.Proofs.YtmeckbjinmgbbaaGreat