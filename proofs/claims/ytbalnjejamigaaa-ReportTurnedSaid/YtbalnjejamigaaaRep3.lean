/- Reports: the document's answer, on. -/
import Derived.Test.YtbalnjejamigaaaRep2
set_option linter.unusedVariables false
set_option linter.unusedSimpArgs false

namespace Go.Proofs.Ytbalnjejamigaaa
open Go.X
def sameSt (a b : StampS) : Bool := decide (a.epoch = b.epoch) && decide (a.fr = b.fr) && decide (a.to = b.to) && decide (a.time = b.time) && decide (a.commit = b.commit) && decide (a.tag = b.tag)
def sameB (a b : RepS) : Bool := decide (a.id = b.id) && decide (a.who = b.who) && decide (a.tl = b.tl) && decide (a.op = b.op) && sameSt a.st b.st
theorem sameSt_refl {a : StampS} : sameSt a a = true := by simp [sameSt]
theorem rows3_bytes {fr to : Int} {tl : List Int} (h : 0 ≤ fr ∧ fr < 8) (h2 : 0 ≤ to ∧ to < 8) (hb : bytes tl) : ∀ l ∈ [[fr], [to], tl], bytes l := by
  intro l hl
  simp only [List.mem_cons, List.not_mem_nil, or_false] at hl
  rcases hl with rfl | rfl | rfl
  · intro c hc; rw [List.mem_singleton.1 hc]; omega
  · intro c hc; rw [List.mem_singleton.1 hc]; omega
  · exact hb
def madeEnv (op : List Int) (fr to : Int) (tl : List Int) : EnvS := ⟨fr, to, macF op (joinF [[fr], [to], tl]), List.replicate 32 0, 0, 0, .slice none 0 0⟩
def madeR (root op : List Int) (id fr to now : Int) (A : Option Addr) (n cap : Nat) (tl : List Int) : RepS := ⟨id, to, A, n, cap, tl, op, stampF root 5 (madeEnv op fr to tl) now⟩

theorem same17_calls (a b : RepS) (hok1 : RepOK a) (hok2 : RepOK b) (w : World) (hT1 : SrW w 1 a.ta a.tn (iv .u8 a.tl)) (hT2 : SrW w 1 b.ta b.tn (iv .u8 b.tl)) :
    Calls Try.prog 49 [AG a.V, AG b.V].toArray w fun e w' => e = .returned (.bool (sameB a b)) ∧ HP w w' [] [] := by
 obtain ⟨ho1, hob1, hc1, hcb1, ht1, htb1, htl1, htc1⟩ := id hok1
 have hlt1 := SrW.ilen hT1
 obtain ⟨ho2, hob2, hc2, hcb2, ht2, htb2, htl2, htc2⟩ := id hok2
 have hlt2 := SrW.ilen hT2
 unfold RepS.V
 refine calls_of_W Try.func49 rfl Try.ntmps49 rfl rfl (HP.refl w []) ?_
 refine sr ?_
 refine obxa (fun b2 => ?_)
 refine obxa (fun b3 => ?_)
 refine oas ?_
 refine nx ?_
 refine ov (vfa0 0 1) ?_
 refine ov vld ?_
 refine ov (vfa0 0 1) ?_
 refine ov vld ?_
 refine ov (v2 V_eql) ?_
 refine omv ?_
 refine WL.splitD rfl (fun g1 => ?_) (fun g1 => ?_)
 · refine oy rfl (decide_eq_true g1) ?_
   refine ov (vfa0 1 1) ?_
   refine oy rfl (decide_eq_true g1) ?_
   refine ov vld ?_
   refine oy rfl (decide_eq_true g1) ?_
   refine ov (vfa0 1 1) ?_
   refine oy rfl (decide_eq_true g1) ?_
   refine ov vld ?_
   refine oy rfl (decide_eq_true g1) ?_
   refine ov (v2 V_eql) ?_
   refine ov (V_pick_td rfl g1 rfl) ?_
   refine omv ?_
   refine WL.splitD rfl (fun g2 => ?_) (fun g2 => ?_)
   · refine oy rfl (decide_eq_true g2) ?_
     refine ov (vfa0 2 1) ?_
     refine oy rfl (decide_eq_true g2) ?_
     refine ov vld ?_
     refine oy rfl (decide_eq_true g2) ?_
     refine ov vbs ?_
     refine oy rfl (decide_eq_true g2) ?_
     refine ov (vfa0 2 1) ?_
     refine oy rfl (decide_eq_true g2) ?_
     refine ov vld ?_
     refine oy rfl (decide_eq_true g2) ?_
     refine ov vbs ?_
     refine oy rfl (decide_eq_true g2) ?_
     refine ov veqS ?_
     refine ov (V_pick_td rfl g2 rfl) ?_
     refine omv ?_
     refine WL.splitD rfl (fun g3 => ?_) (fun g3 => ?_)
     · refine oy rfl (decide_eq_true g3) ?_
       refine ov (vfa0 3 32) ?_
       refine oy rfl (decide_eq_true g3) ?_
       refine ov (vlda 32) ?_
       refine oy rfl (decide_eq_true g3) ?_
       refine ov (vfa0 3 32) ?_
       refine oy rfl (decide_eq_true g3) ?_
       refine ov (vlda 32) ?_
       refine oy rfl (decide_eq_true g3) ?_
       refine ov (veqlI 3 32 .u8) ?_
       refine ov (V_pick_td rfl g3 rfl) ?_
       refine omv ?_
       refine WL.splitD rfl (fun g4 => ?_) (fun g4 => ?_)
       · refine oy rfl (decide_eq_true g4) ?_
         refine ov (vfa0 35 68) ?_
         refine oy rfl (decide_eq_true g4) ?_
         refine ov (vlda 68) ?_
         refine oy rfl (decide_eq_true g4) ?_
         refine ov (vfa0 35 68) ?_
         refine oy rfl (decide_eq_true g4) ?_
         refine ov (vlda 68) ?_
         refine oy rfl (decide_eq_true g4) ?_
         refine ov (veqA [(1, 5), (1, 5), (1, 5), (1, 5), (32, 6), (32, 6)]) ?_
         refine ov (V_pick_td rfl g4 rfl) ?_
         refine oas ?_
         refine nq ?_
         refine W.ret ?_
         refine WQ.ret1 Try.results49 (.tmp rfl) ?_
         intro w' hp; exact ⟨by simp [sameB, sameSt, Bool.and_assoc, *], hp.forget⟩
       · refine on rfl (decide_eq_false g4) ?_
         refine on rfl (decide_eq_false g4) ?_
         refine on rfl (decide_eq_false g4) ?_
         refine on rfl (decide_eq_false g4) ?_
         refine on rfl (decide_eq_false g4) ?_
         refine ov (V_pick_fd rfl g4 rfl) ?_
         refine oas ?_
         refine nq ?_
         refine W.ret ?_
         refine WQ.ret1 Try.results49 (.tmp rfl) ?_
         intro w' hp; exact ⟨by simp [sameB, sameSt, Bool.and_assoc, *], hp.forget⟩
     · refine on rfl (decide_eq_false g3) ?_
       refine on rfl (decide_eq_false g3) ?_
       refine on rfl (decide_eq_false g3) ?_
       refine on rfl (decide_eq_false g3) ?_
       refine on rfl (decide_eq_false g3) ?_
       refine ov (V_pick_fd rfl g3 rfl) ?_
       refine omv ?_
       refine on rfl rfl ?_
       refine on rfl rfl ?_
       refine on rfl rfl ?_
       refine on rfl rfl ?_
       refine on rfl rfl ?_
       refine ov (V_pick_f rfl rfl rfl) ?_
       refine oas ?_
       refine nq ?_
       refine W.ret ?_
       refine WQ.ret1 Try.results49 (.tmp rfl) ?_
       intro w' hp; exact ⟨by simp [sameB, sameSt, Bool.and_assoc, *], hp.forget⟩
   · refine on rfl (decide_eq_false g2) ?_
     refine on rfl (decide_eq_false g2) ?_
     refine on rfl (decide_eq_false g2) ?_
     refine on rfl (decide_eq_false g2) ?_
     refine on rfl (decide_eq_false g2) ?_
     refine on rfl (decide_eq_false g2) ?_
     refine on rfl (decide_eq_false g2) ?_
     refine ov (V_pick_fd rfl g2 rfl) ?_
     refine omv ?_
     refine on rfl rfl ?_
     refine on rfl rfl ?_
     refine on rfl rfl ?_
     refine on rfl rfl ?_
     refine on rfl rfl ?_
     refine ov (V_pick_f rfl rfl rfl) ?_
     refine omv ?_
     refine on rfl rfl ?_
     refine on rfl rfl ?_
     refine on rfl rfl ?_
     refine on rfl rfl ?_
     refine on rfl rfl ?_
     refine ov (V_pick_f rfl rfl rfl) ?_
     refine oas ?_
     refine nq ?_
     refine W.ret ?_
     refine WQ.ret1 Try.results49 (.tmp rfl) ?_
     intro w' hp; exact ⟨by simp [sameB, sameSt, Bool.and_assoc, *], hp.forget⟩
 · refine on rfl (decide_eq_false g1) ?_
   refine on rfl (decide_eq_false g1) ?_
   refine on rfl (decide_eq_false g1) ?_
   refine on rfl (decide_eq_false g1) ?_
   refine on rfl (decide_eq_false g1) ?_
   refine ov (V_pick_fd rfl g1 rfl) ?_
   refine omv ?_
   refine on rfl rfl ?_
   refine on rfl rfl ?_
   refine on rfl rfl ?_
   refine on rfl rfl ?_
   refine on rfl rfl ?_
   refine on rfl rfl ?_
   refine on rfl rfl ?_
   refine ov (V_pick_f rfl rfl rfl) ?_
   refine omv ?_
   refine on rfl rfl ?_
   refine on rfl rfl ?_
   refine on rfl rfl ?_
   refine on rfl rfl ?_
   refine on rfl rfl ?_
   refine ov (V_pick_f rfl rfl rfl) ?_
   refine omv ?_
   refine on rfl rfl ?_
   refine on rfl rfl ?_
   refine on rfl rfl ?_
   refine on rfl rfl ?_
   refine on rfl rfl ?_
   refine ov (V_pick_f rfl rfl rfl) ?_
   refine oas ?_
   refine nq ?_
   refine W.ret ?_
   refine WQ.ret1 Try.results49 (.tmp rfl) ?_
   intro w' hp; exact ⟨by simp [sameB, sameSt, Bool.and_assoc, *], hp.forget⟩

theorem made17_calls (rl op : List Int) (id fr to now : Int) (hl : rl.length = 32) (hrb : bytes rl) (ho : op.length = 32) (hob : bytes op) (hfr : 0 ≤ fr ∧ fr < 8) (hto : 0 ≤ to ∧ to < 8) (A : Option Addr) (n cap : Nat) (tl : List Int) (w : World) (hT : SrW w 1 A n (iv .u8 tl)) (htl : bytes tl) (hnc : n ≤ cap) (hn : n ≤ 1000) :
    Calls Try.prog 53 [AG [(32, iv .u8 rl)], AG [(32, iv .u8 op)], .int .i64 id, .int .i64 fr, .int .i64 to, .int .i64 now, .slice A n cap].toArray w fun e w' => e = .returned (AG (madeR rl op id fr to now A n cap tl).V) ∧ HP w w' [] [] := by
 have hlt := SrW.ilen hT
 have hmc : ∀ t n, (stampF rl t (madeEnv op fr to tl) n).commit.length = 32 := fun _ _ => stampF_clen (by simp [madeEnv])
 refine calls_of_W Try.func53 rfl Try.ntmps53 rfl rfl (HP.refl w []) ?_
 refine sr ?_
 refine obxa (fun b7 => ?_)
 refine obxa (fun b8 => ?_)
 refine oal [(1, [.int .i64 0]), (1, [.int .i64 0]), (1, [.slice none 0 0]), (32, List.replicate 32 (.int .u8 0)), (1, [.int .i64 0]), (1, [.int .i64 0]), (1, [.int .i64 0]), (1, [.int .i64 0]), (32, List.replicate 32 (.int .u8 0)), (32, List.replicate 32 (.int .u8 0))] (fun b14 => ?_)
 refine nx ?_
 refine ov (vlda 32) ?_
 refine omv ?_
 first | refine ov (vcvN .u8) ?_ | refine ov (vcv .u8) ?_
 refine obsI (k := .u8) 5 1 [_] (fun b21 => ?_)
 refine omv ?_
 first | refine ov (vcvN .u8) ?_ | refine ov (vcv .u8) ?_
 refine obsI (k := .u8) 5 1 [_] (fun b24 => ?_)
 refine omv ?_
 refine obs 22 24 (fun b26 => ?_)
 refine cp rfl (fun w hp => rmake_calls op ho hob _ _ _ [[fr], [to], tl] w rw3 (rows3_bytes hfr hto htl) (by simp [joinF]; omega)) ?_
 refine oal [(32, List.replicate 32 (.int .u8 0))] (fun b15 => ?_)
 refine osta 32 ?_
 refine nx ?_
 refine ov (vlda 32) ?_
 refine omv ?_
 refine omv ?_
 refine ov (vlda 32) ?_
 refine ov (V_build (by kernel_rfl) (zi (zs := [(1, [.int .i64 0]), (1, [.int .i64 0]), (32, List.replicate 32 (.int .u8 0)), (32, List.replicate 32 (.int .u8 0)), (1, [.int .i64 0]), (1, [.int .i64 0]), (1, [.slice none 0 0])])) (.one (k := 0) rfl rfl (by kernel_rfl) rfl (.one (k := 1) rfl rfl (by kernel_rfl) rfl (.agg (k := 2) (n := 32) rfl fit fln (by kernel_rfl) rfl (.nil _))))) ?_
 refine omv ?_
 refine cp rfl (fun w hp => rstamp_calls rl 5 (madeEnv op fr to tl) now hl hrb (by omega) (by simp [madeEnv]) (by simp [madeEnv]) (by simp [madeEnv]) w) ?_
 unfold stV
 refine omv ?_
 refine ov vex ?_
 refine ov vex ?_
 refine oal [(1, [.int .i64 0]), (1, [.int .i64 0]), (1, [.int .i64 0]), (1, [.int .i64 0]), (32, List.replicate 32 (.int .u8 0)), (32, List.replicate 32 (.int .u8 0))] (fun b16 => ?_)
 refine osta 68 ?_
 refine oas ?_
 refine nx ?_
 refine omv ?_
 refine omv ?_
 refine omv ?_
 refine ov (vlda 32) ?_
 refine ov (vlda 68) ?_
 refine ov (V_build (by kernel_rfl) (zi (zs := [(1, [.int .i64 0]), (1, [.int .i64 0]), (1, [.slice none 0 0]), (32, List.replicate 32 (.int .u8 0)), (1, [.int .i64 0]), (1, [.int .i64 0]), (1, [.int .i64 0]), (1, [.int .i64 0]), (32, List.replicate 32 (.int .u8 0)), (32, List.replicate 32 (.int .u8 0))])) (.one (k := 0) rfl rfl (by kernel_rfl) rfl (.one (k := 1) rfl rfl (by kernel_rfl) rfl (.one (k := 2) rfl rfl (by kernel_rfl) rfl (.agg (k := 3) (n := 32) rfl fit fln (by kernel_rfl) rfl (.agg (k := 35) (n := 68) rfl fit fln (by kernel_rfl) rfl (.nil _))))))) ?_
 refine osta 103 ?_
 refine nq ?_
 refine W.ret ?_
 refine WQ.ret1 Try.results53 (.cellA 103 (by kernel_rfl) rfl at_ (by rfl)) ?_
 intro w' hp; exact ⟨by first | rfl | (simp; done) | (simp [*]; done) | simp_all, hp.forget⟩

theorem rrepchk_calls (root : List Int) (ticks : Int) (r : RepS) (now : Int) (hl : root.length = 32) (hrb : bytes root) (hti : 1 ≤ ticks) (hok : RepOK r) (w : World) (hT : SrW w 1 r.ta r.tn (iv .u8 r.tl)) :
    Calls Try.prog 52 [AG [(32, iv .u8 root)], .int .i64 ticks, AG r.V, .int .i64 now].toArray w fun e w' => e = .returned (.int .i64 (repChk root ticks r now)) ∧ HP w w' [] [] := by
 obtain ⟨ho, hob, hc, hcb, ht, htb, htl, htc⟩ := id hok
 have hlt := SrW.ilen hT
 unfold RepS.V
 refine calls_of_W Try.func52 rfl Try.ntmps52 rfl rfl (HP.refl w []) ?_
 refine sr ?_
 refine obxa (fun b4 => ?_)
 refine obxa (fun b6 => ?_)
 refine oas ?_
 refine nx ?_
 refine ov (vfa0 35 68) ?_
 refine ov (vlda 68) ?_
 refine oal [(1, [.int .i64 0]), (1, [.int .i64 0]), (1, [.int .i64 0]), (1, [.int .i64 0]), (32, List.replicate 32 (.int .u8 0)), (32, List.replicate 32 (.int .u8 0))] (fun b9 => ?_)
 refine osta 68 ?_
 refine nq ?_
 refine W.seq ?_
 refine W.seq ?_
 by_cases hrr : rB r = true ∧ r.who = r.st.to
 · have hb := rB_bd hrr.1
   have hb3 := right_bd hb.1
   have hb : ((0 ≤ r.st.fr ∧ r.st.fr < 8) ∧ 0 ≤ r.st.to ∧ r.st.to < 8) ∧ r.tn ≤ 250 := ⟨hb3.2.2, hb.2.2.2⟩
   refine W.region ?_
   refine ov (vlda 103) ?_
   refine cp rfl (fun w hp => rrepright_calls r hok w) ?_
   refine ov vnot ?_
   refine omv ?_
   refine oy rfl (by rw [hrr.1]; rfl) ?_
   refine ov (vfa0 1 1) ?_
   refine oy rfl (by rw [hrr.1]; rfl) ?_
   refine ov vld ?_
   refine oy rfl (by rw [hrr.1]; rfl) ?_
   refine ov (vfa0 2 1) ?_
   refine oy rfl (by rw [hrr.1]; rfl) ?_
   refine ov vld ?_
   refine oy rfl (by rw [hrr.1]; rfl) ?_
   refine ov (v2 V_neq) ?_
   refine ov (V_pick_f rfl (by rw [hrr.1]; rfl) rfl) ?_
   refine nq ?_
   refine W.cond_false rfl (by simp [hrr.2]) ?_
   refine W.skip ?_
   refine WQ.then ?_
   refine sr ?_
   refine ov (vlda 32) ?_
   refine omv ?_
   refine ov (vlda 68) ?_
   refine omv ?_
   refine cp rfl (fun w hp => rchk16_calls root ticks r.st now hl hrb hti hc hcb ht w) ?_
   refine oas ?_
   refine nq ?_
   refine W.seq ?_
   refine sr ?_
   refine omv ?_
   refine ov (v2 V_neq) ?_
   refine nq ?_
   refine W.cond_dec rfl (fun g1 => ?_) (fun g1 => ?_)
   · refine W.seq ?_
     refine W.region ?_
     refine omv ?_
     refine oas ?_
     refine nq ?_
     refine W.ret ?_
     refine WQ.then_ret ?_
     refine WQ.ret1 Try.results52 (.tmp rfl) ?_
     intro w' hp; rw [rcE hrr (by simpa using g1)]; exact ⟨rfl, hp.forget⟩
   · refine W.skip ?_
     refine WQ.then ?_
     refine W.seq ?_
     refine W.seq ?_
     apply W.j3
     · intro hJ
       refine dr (.q 0 (.q 1 (.q 2 (.q 3 (.q 4 (.q 6 (.q 7 (.q 8 (.q 10 (.q 11 (.q 14 (.q 15 (.l2 5 (.l 9 (.l 12 (.l 13 (.q 16 (.done))))) 9 (.l 5 (.l 12 (.l 13 (.q 16 (.done)))))))))))))))))) [(b9, _), (b6, _)] ?_
       refine dq rfl (vfa0 3 32) ?_
       refine dq rfl (vlda 32) ?_
       refine dq rfl (vfa0 1 1) ?_
       refine dq rfl vld ?_
       first | refine dq rfl (vcvN .u8) ?_ | refine dq rfl (vcv .u8) ?_
       refine dq rfl (vfa0 2 1) ?_
       refine dq rfl vld ?_
       first | refine dq rfl (vcvN .u8) ?_ | refine dq rfl (vcv .u8) ?_
       refine dq rfl (vfa0 2 1) ?_
       refine dq rfl vld ?_
       refine dq rfl (vfa0 4 32) ?_
       refine dq rfl (vlda 32) ?_
       refine WD.l2 ?_ ?_
       · refine dbsI (k := .u8) rfl 5 1 [_] (fun b36 => ?_)
         refine WD.l ?_
         refine dbsI (k := .u8) rfl 5 1 [_] (fun b40 => ?_)
         refine WD.l ?_
         refine dbs rfl 22 24 (fun b43 => ?_)
         refine WD.l ?_
         refine dcp rfl rfl (fun w hp => rmake_calls r.op ho hob _ _ _ [[r.st.fr], [r.st.to], r.tl] w rw3 (com_bytes hb.1 htl) (com_bd hb.2 hlt)) ?_
         refine dq rfl (vneqI 3 32 .u8) ?_
         refine WD.done ?_
         exact WQ.pick (S' := [(0, _), (1, _), (2, _), (3, _), (4, _), (6, _), (8, _), (9, _), (10, _), (22, _), (29, _), (47, _)]) [0, 1, 2, 3, 4, 6, 8, 9, 10, 22, 29, 47] rfl (hJ b36 b40 b43)
       · refine dbsI (k := .u8) rfl 5 1 [_] (fun b40 => ?_)
         refine WD.l ?_
         refine dbsI (k := .u8) rfl 5 1 [_] (fun b36 => ?_)
         refine WD.l ?_
         refine dbs rfl 22 24 (fun b43 => ?_)
         refine WD.l ?_
         refine dcp rfl rfl (fun w hp => rmake_calls r.op ho hob _ _ _ [[r.st.fr], [r.st.to], r.tl] w rw3 (com_bytes hb.1 htl) (com_bd hb.2 hlt)) ?_
         refine dq rfl (vneqI 3 32 .u8) ?_
         refine WD.done ?_
         exact WQ.pick (S' := [(0, _), (1, _), (2, _), (3, _), (4, _), (6, _), (8, _), (9, _), (10, _), (22, _), (29, _), (47, _)]) [0, 1, 2, 3, 4, 6, 8, 9, 10, 22, 29, 47] rfl (WQ.cov _ (hJ b36 b40 b43))
     intro b36 b40 b43
     refine WQ.then ?_
     refine W.cond rfl (fun g2 => ?_) (fun g2 => ?_)
     · refine W.seq ?_
       refine W.region ?_
       refine oas ?_
       refine nq ?_
       refine W.ret ?_
       refine WQ.then_ret ?_
       refine WQ.ret1 Try.results52 (.tmp rfl) ?_
       intro w' hp; rw [rcO hrr (by simpa using g1), if_neg (by simp_all [comL])]; exact ⟨rfl, hp.forget⟩
     · refine W.skip ?_
       refine WQ.then ?_
       refine sr ?_
       refine oas ?_
       refine nq ?_
       refine W.ret ?_
       refine WQ.ret1 Try.results52 (.tmp rfl) ?_
       intro w' hp; rw [rcO hrr (by simpa using g1), if_pos (by simp_all [comL])]; exact ⟨rfl, hp.forget⟩
 · refine W.region ?_
   refine ov (vlda 103) ?_
   refine cp rfl (fun w hp => rrepright_calls r hok w) ?_
   refine ov vnot ?_
   refine omv ?_
   refine WL.split rfl (fun g3 => ?_) (fun g3 => ?_)
   · refine on rfl g3 ?_
     refine on rfl g3 ?_
     refine on rfl g3 ?_
     refine on rfl g3 ?_
     refine on rfl g3 ?_
     refine ov (V_pick_t rfl g3 rfl) ?_
     refine nq ?_
     refine W.cond_true rfl rfl ?_
     refine sr ?_
     refine oas ?_
     refine nq ?_
     refine W.ret ?_
     refine WQ.then_ret ?_
     refine WQ.ret1 Try.results52 (.tmp rfl) ?_
     intro w' hp; rw [rc1 hrr]; exact ⟨rfl, hp.forget⟩
   · refine oy rfl g3 ?_
     refine ov (vfa0 1 1) ?_
     refine oy rfl g3 ?_
     refine ov vld ?_
     refine oy rfl g3 ?_
     refine ov (vfa0 2 1) ?_
     refine oy rfl g3 ?_
     refine ov vld ?_
     refine oy rfl g3 ?_
     refine ov (v2 V_neq) ?_
     refine ov (V_pick_f rfl g3 rfl) ?_
     refine nq ?_
     refine W.cond_true rfl (decide_eq_true (by intro e; exact hrr ⟨by simp_all, e⟩)) ?_
     refine sr ?_
     refine oas ?_
     refine nq ?_
     refine W.ret ?_
     refine WQ.then_ret ?_
     refine WQ.ret1 Try.results52 (.tmp rfl) ?_
     intro w' hp; rw [rc1 hrr]; exact ⟨rfl, hp.forget⟩

end Go.Proofs.Ytbalnjejamigaaa