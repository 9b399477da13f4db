/- Reports, on: checks; the document's answer. -/
import Derived.Test.YtbalnjejamigaaaRep
set_option linter.unusedVariables false
set_option linter.unusedSimpArgs false

namespace Go.Proofs.Ytbalnjejamigaaa
open Go.X
def comL (r : RepS) : List Int := macF r.op (joinF [[r.st.fr], [r.st.to], r.tl])
def repChk (root : List Int) (ticks : Int) (r : RepS) (now : Int) : Int :=
  if rB r = true ∧ r.who = r.st.to then (if checkF root ticks r.st now = 0 then (if comL r = r.st.commit then 0 else 4) else checkF root ticks r.st now) else 1
section
variable {root : List Int} {ticks now : Int} {r : RepS}
theorem rc1 (h : ¬ (rB r = true ∧ r.who = r.st.to)) : repChk root ticks r now = 1 := if_neg h
theorem rcE (h : rB r = true ∧ r.who = r.st.to) (h2 : checkF root ticks r.st now ≠ 0) : repChk root ticks r now = checkF root ticks r.st now := by unfold repChk; rw [if_pos h, if_neg h2]
theorem rcO (h : rB r = true ∧ r.who = r.st.to) (h2 : checkF root ticks r.st now = 0) : repChk root ticks r now = if comL r = r.st.commit then 0 else 4 := by unfold repChk; rw [if_pos h, if_pos h2]
theorem com_bd (h : r.tn ≤ 250) (hl : r.tn = r.tl.length) : (joinF [[r.st.fr], [r.st.to], r.tl]).length ≤ 4000000 := by simp [joinF]; omega
theorem com_bytes (h : (0 ≤ r.st.fr ∧ r.st.fr < 8) ∧ 0 ≤ r.st.to ∧ r.st.to < 8) (hb : bytes r.tl) : ∀ l ∈ [[r.st.fr], [r.st.to], r.tl], bytes l := by
  intro l hl
  simp only [List.mem_cons, List.not_mem_nil, or_false] at hl
  rcases hl with rfl | rfl | rfl
  · intro c hc; rw [List.mem_singleton.1 hc]; omega
  · intro c hc; rw [List.mem_singleton.1 hc]; omega
  · exact hb
end

theorem repchk_calls (r : RepS) (now : Int) (hok : RepOK r) (R : Rel) (ticks : Int) (root : List Int) (m : List Ent) (clock : Nat) (w : World) (hR : RelAt w R ticks root) (hm : (Blk.obj (mapO .i64 m clock)).Is w.heap[R.m]?) (hg : Good root m) (hl : root.length = 32) (hrb : bytes root) (hT : SrW w 1 r.ta r.tn (iv .u8 r.tl)) (hti : 1 ≤ ticks) :
    Calls Try.prog 51 [.pointer (some ⟨R.r, 0, none⟩), AG r.V, .int .i64 now].toArray w fun e w' => ∃ q : List Ent × Nat, Good root q.1 ∧ e = .returned (.int .i64 (repChk root ticks r now)) ∧ HP w w' [R.m] [(R.m, .obj (mapO .i64 q.1 q.2))] := by
 obtain ⟨hr, hv, hk⟩ := hR
 have hne1 : R.r ≠ R.m := hr.neObj hm
 have hne2 : R.v ≠ R.m := hv.neObj hm
 have hne3 : R.k ≠ R.m := hk.neObj hm
 have hT' : ∀ w' L, HP w w' [R.m] L → SrW w' 1 r.ta r.tn (iv .u8 r.tl) := fun w' L hp => hp.soldO hT hm
 obtain ⟨ho, hob, hc, hcb, ht, htb, htl, htc⟩ := id hok
 have hlt := SrW.ilen hT
 unfold RepS.V
 refine calls_of_W Try.func51 rfl Try.ntmps51 rfl rfl (HP.start1 hm) ?_
 refine sr ?_
 refine obxa (fun b4 => ?_)
 refine oas ?_
 refine nx ?_
 refine ov (vfa0 35 68) ?_
 refine ov (vlda 68) ?_
 refine oal [(1, [.int .i64 0]), (1, [.int .i64 0]), (1, [.int .i64 0]), (1, [.int .i64 0]), (32, List.replicate 32 (.int .u8 0)), (32, List.replicate 32 (.int .u8 0))] (fun b7 => ?_)
 refine osta 68 ?_
 refine nq ?_
 refine W.seq ?_
 refine W.seq ?_
 by_cases hrr : rB r = true ∧ r.who = r.st.to
 · have hb := rB_bd hrr.1
   have hb3 := right_bd hb.1
   have hb : ((0 ≤ r.st.fr ∧ r.st.fr < 8) ∧ 0 ≤ r.st.to ∧ r.st.to < 8) ∧ r.tn ≤ 250 := ⟨hb3.2.2, hb.2.2.2⟩
   refine W.region ?_
   refine ov (vlda 103) ?_
   refine cp rfl (fun w hp => repright_calls r hok w) ?_
   refine ov vnot ?_
   refine omv ?_
   refine oy rfl (by rw [hrr.1]; rfl) ?_
   refine ov (vfa0 1 1) ?_
   refine oy rfl (by rw [hrr.1]; rfl) ?_
   refine ov vld ?_
   refine oy rfl (by rw [hrr.1]; rfl) ?_
   refine ov (vfa0 2 1) ?_
   refine oy rfl (by rw [hrr.1]; rfl) ?_
   refine ov vld ?_
   refine oy rfl (by rw [hrr.1]; rfl) ?_
   refine ov (v2 V_neq) ?_
   refine ov (V_pick_f rfl (by rw [hrr.1]; rfl) rfl) ?_
   refine nq ?_
   refine W.cond_false rfl (by simp [hrr.2]) ?_
   refine W.skip ?_
   refine WQ.then ?_
   refine W.seq ?_
   refine sr ?_
   refine omv ?_
   refine ov (vlda 68) ?_
   refine omv ?_
   refine cg rfl (fun w hp => chk16_calls r.st now hc hcb ht htb R ticks root m clock w rat (hh hp) hg hl hrb hti) (fun b24 h24 => ?_)
   refine oas ?_
   refine nx ?_
   refine omv ?_
   refine ov (v2 V_neq) ?_
   refine nq ?_
   refine W.cond_dec rfl (fun g1 => ?_) (fun g1 => ?_)
   · refine W.seq ?_
     refine W.region ?_
     refine omv ?_
     refine oas ?_
     refine nq ?_
     refine W.ret ?_
     refine WQ.then_ret ?_
     refine WQ.ret1 Try.results51 (.tmp rfl) ?_
     intro w' hp; rw [rcE hrr (by simpa using g1)]; exact ⟨b24, h24, rfl, hp.cov cov⟩
   · refine W.skip ?_
     refine WQ.then ?_
     refine sr ?_
     refine ov (vfa0 4 32) ?_
     refine ov (vlda 32) ?_
     refine ov (vfa0 3 32) ?_
     refine ov (vlda 32) ?_
     refine ov (vfa0 1 1) ?_
     refine ov vld ?_
     first | refine ov (vcvN .u8) ?_ | refine ov (vcv .u8) ?_
     refine obsI (k := .u8) 5 1 [_] (fun b35 => ?_)
     refine ov (vfa0 2 1) ?_
     refine ov vld ?_
     first | refine ov (vcvN .u8) ?_ | refine ov (vcv .u8) ?_
     refine obsI (k := .u8) 5 1 [_] (fun b39 => ?_)
     refine ov (vfa0 2 1) ?_
     refine ov vld ?_
     refine obs 22 24 (fun b42 => ?_)
     refine cp rfl (fun w hp => check_calls14 r.st.commit r.op hc ho hob _ _ _ [[r.st.fr], [r.st.to], r.tl] w (rw3 (h3 := rwo (h3 := hT' _ _ hp))) (com_bytes hb.1 htl) (com_bd hb.2 hlt)) ?_
     refine oas ?_
     refine nq ?_
     refine W.ret ?_
     refine WQ.ret1 Try.results51 (.tmp rfl) ?_
     intro w' hp; rw [rcO hrr (by simpa using g1)]; exact ⟨b24, h24, rfl, hp.cov cov⟩
 · refine W.region ?_
   refine ov (vlda 103) ?_
   refine cp rfl (fun w hp => repright_calls r hok w) ?_
   refine ov vnot ?_
   refine omv ?_
   refine WL.split rfl (fun g2 => ?_) (fun g2 => ?_)
   · refine on rfl g2 ?_
     refine on rfl g2 ?_
     refine on rfl g2 ?_
     refine on rfl g2 ?_
     refine on rfl g2 ?_
     refine ov (V_pick_t rfl g2 rfl) ?_
     refine nq ?_
     refine W.cond_true rfl rfl ?_
     refine sr ?_
     refine oas ?_
     refine nq ?_
     refine W.ret ?_
     refine WQ.then_ret ?_
     refine WQ.ret1 Try.results51 (.tmp rfl) ?_
     intro w' hp; rw [rc1 hrr]; exact ⟨(m, clock), hg, rfl, hp.cov cov⟩
   · refine oy rfl g2 ?_
     refine ov (vfa0 1 1) ?_
     refine oy rfl g2 ?_
     refine ov vld ?_
     refine oy rfl g2 ?_
     refine ov (vfa0 2 1) ?_
     refine oy rfl g2 ?_
     refine ov vld ?_
     refine oy rfl g2 ?_
     refine ov (v2 V_neq) ?_
     refine ov (V_pick_f rfl g2 rfl) ?_
     refine nq ?_
     refine W.cond_true rfl (decide_eq_true (by intro e; exact hrr ⟨by simp_all, e⟩)) ?_
     refine sr ?_
     refine oas ?_
     refine nq ?_
     refine W.ret ?_
     refine WQ.then_ret ?_
     refine WQ.ret1 Try.results51 (.tmp rfl) ?_
     intro w' hp; rw [rc1 hrr]; exact ⟨(m, clock), hg, rfl, hp.cov cov⟩

theorem rB_no2 {r : RepS} (h : ¬ (timeB r.id = true ∧ (0 ≤ r.who ∧ r.who ≤ 7) ∧ r.tn ≤ 250)) : rB r = false := by
  cases hq : rB r with
  | false => rfl
  | true => have := rB_bd hq; exact absurd ⟨by simp [timeB]; omega, by omega, this.2.2.2⟩ h
theorem rB_yes2 {r : RepS} (h : timeB r.id = true ∧ (0 ≤ r.who ∧ r.who ≤ 7) ∧ r.tn ≤ 250) : rB r = rightB r.st := by
  unfold rB acB
  rw [h.1, decide_eq_true h.2.1.1, decide_eq_true (show r.who < 8 by omega), decide_eq_true (show (r.tn : Int) ≤ 250 by omega)]; simp

theorem rrepright_calls (r : RepS) (hok : RepOK r) (w : World) : Calls Try.prog 80 [AG r.V].toArray w fun e w' => e = .returned (.bool (rB r)) ∧ HP w w' [] [] := by
 obtain ⟨ho, hob, hc, hcb, ht, htb, htl, htc⟩ := id hok
 unfold RepS.V
 refine calls_of_W Try.func80 rfl Try.ntmps80 rfl rfl (HP.refl w []) ?_
 refine sr ?_
 refine obxa (fun b1 => ?_)
 refine oas ?_
 refine nx ?_
 refine ov (vfa0 0 1) ?_
 refine ov vld ?_
 refine cp rfl (fun w hp => rtime_calls _ w) ?_
 refine omv ?_
 refine WL.split rfl (fun g1 => ?_) (fun g1 => ?_)
 · refine oy rfl g1 ?_
   refine ov (vfa0 1 1) ?_
   refine oy rfl g1 ?_
   refine ov vld ?_
   refine oy rfl g1 ?_
   refine ov (v2 V_geq) ?_
   refine ov (V_pick_t rfl g1 rfl) ?_
   refine omv ?_
   refine WL.splitD rfl (fun g2 => ?_) (fun g2 => ?_)
   · refine oy rfl (decide_eq_true g2) ?_
     refine ov (vfa0 1 1) ?_
     refine oy rfl (decide_eq_true g2) ?_
     refine ov vld ?_
     refine oy rfl (decide_eq_true g2) ?_
     refine ov (v2 V_leq) ?_
     refine ov (V_pick_td rfl g2 rfl) ?_
     refine omv ?_
     refine WL.splitD rfl (fun g3 => ?_) (fun g3 => ?_)
     · refine oy rfl (decide_eq_true g3) ?_
       refine ov (vfa0 2 1) ?_
       refine oy rfl (decide_eq_true g3) ?_
       refine ov vld ?_
       refine oy rfl (decide_eq_true g3) ?_
       refine ov vlenS ?_
       refine oy rfl (decide_eq_true g3) ?_
       refine ov (v2 V_leq) ?_
       refine ov (V_pick_td rfl g3 rfl) ?_
       refine omv ?_
       refine WL.splitD rfl (fun g4 => ?_) (fun g4 => ?_)
       · refine oy rfl (decide_eq_true g4) ?_
         refine ov (vfa0 35 68) ?_
         refine oy rfl (decide_eq_true g4) ?_
         refine ov (vlda 68) ?_
         refine oy rfl (decide_eq_true g4) ?_
         refine cp rfl (fun w hp => rright_calls r.st hc ht w) ?_
         refine ov (V_pick_td rfl g4 rfl) ?_
         refine oas ?_
         refine nq ?_
         refine W.ret ?_
         refine WQ.ret1 Try.results80 (.tmp rfl) ?_
         intro w' hp; first | exact ⟨by rw [rB_yes2 ⟨by assumption, ⟨by omega, by omega⟩, by omega⟩], hp.forget⟩ | exact ⟨by rw [rB_no2 (by rintro ⟨h1, h2, h3⟩; first | omega | simp_all)], hp.forget⟩
       · refine on rfl (decide_eq_false g4) ?_
         refine on rfl (decide_eq_false g4) ?_
         refine on rfl (decide_eq_false g4) ?_
         refine ov (V_pick_fd rfl g4 rfl) ?_
         refine oas ?_
         refine nq ?_
         refine W.ret ?_
         refine WQ.ret1 Try.results80 (.tmp rfl) ?_
         intro w' hp; first | exact ⟨by rw [rB_yes2 ⟨by assumption, ⟨by omega, by omega⟩, by omega⟩], hp.forget⟩ | exact ⟨by rw [rB_no2 (by rintro ⟨h1, h2, h3⟩; first | omega | simp_all)], hp.forget⟩
     · refine on rfl (decide_eq_false g3) ?_
       refine on rfl (decide_eq_false g3) ?_
       refine on rfl (decide_eq_false g3) ?_
       refine on rfl (decide_eq_false g3) ?_
       refine ov (V_pick_fd rfl g3 rfl) ?_
       refine omv ?_
       refine on rfl rfl ?_
       refine on rfl rfl ?_
       refine on rfl rfl ?_
       refine ov (V_pick_f rfl rfl rfl) ?_
       refine oas ?_
       refine nq ?_
       refine W.ret ?_
       refine WQ.ret1 Try.results80 (.tmp rfl) ?_
       intro w' hp; first | exact ⟨by rw [rB_yes2 ⟨by assumption, ⟨by omega, by omega⟩, by omega⟩], hp.forget⟩ | exact ⟨by rw [rB_no2 (by rintro ⟨h1, h2, h3⟩; first | omega | simp_all)], hp.forget⟩
   · refine on rfl (decide_eq_false g2) ?_
     refine on rfl (decide_eq_false g2) ?_
     refine on rfl (decide_eq_false g2) ?_
     refine ov (V_pick_fd rfl g2 rfl) ?_
     refine omv ?_
     refine on rfl rfl ?_
     refine on rfl rfl ?_
     refine on rfl rfl ?_
     refine on rfl rfl ?_
     refine ov (V_pick_f rfl rfl rfl) ?_
     refine omv ?_
     refine on rfl rfl ?_
     refine on rfl rfl ?_
     refine on rfl rfl ?_
     refine ov (V_pick_f rfl rfl rfl) ?_
     refine oas ?_
     refine nq ?_
     refine W.ret ?_
     refine WQ.ret1 Try.results80 (.tmp rfl) ?_
     intro w' hp; first | exact ⟨by rw [rB_yes2 ⟨by assumption, ⟨by omega, by omega⟩, by omega⟩], hp.forget⟩ | exact ⟨by rw [rB_no2 (by rintro ⟨h1, h2, h3⟩; first | omega | simp_all)], hp.forget⟩
 · refine on rfl g1 ?_
   refine on rfl g1 ?_
   refine on rfl g1 ?_
   refine ov (V_pick_f rfl g1 rfl) ?_
   refine omv ?_
   refine on rfl rfl ?_
   refine on rfl rfl ?_
   refine on rfl rfl ?_
   refine ov (V_pick_f rfl rfl rfl) ?_
   refine omv ?_
   refine on rfl rfl ?_
   refine on rfl rfl ?_
   refine on rfl rfl ?_
   refine on rfl rfl ?_
   refine ov (V_pick_f rfl rfl rfl) ?_
   refine omv ?_
   refine on rfl rfl ?_
   refine on rfl rfl ?_
   refine on rfl rfl ?_
   refine ov (V_pick_f rfl rfl rfl) ?_
   refine oas ?_
   refine nq ?_
   refine W.ret ?_
   refine WQ.ret1 Try.results80 (.tmp rfl) ?_
   intro w' hp; first | exact ⟨by rw [rB_yes2 ⟨by assumption, ⟨by omega, by omega⟩, by omega⟩], hp.forget⟩ | exact ⟨by rw [rB_no2 (by rintro ⟨h1, h2, h3⟩; first | omega | simp_all)], hp.forget⟩

theorem rrepbytes_calls (r : RepS) (hok : RepOK r) (w : World) (hT : SrW w 1 r.ta r.tn (iv .u8 r.tl)) :
    Calls Try.prog 46 [AG r.V].toArray w fun e w' => ∃ o : Gr, GrOK o (rN r) ∧ e = .returned (.tuple #[.slice (gA o) (rN r) (gC o), .int .i64 (if rB r then 0 else 1)]) ∧ HP w w' [] (gL o (rN r) (iv .u8 (rF r)) 5) := by
 obtain ⟨ho, hob, hc, hcb, ht, htb, htl, htc⟩ := id hok
 have hlt := SrW.ilen hT
 unfold RepS.V
 refine calls_of_W Try.func46 rfl Try.ntmps46 rfl rfl (HP.refl w []) ?_
 refine sr ?_
 refine obxa (fun b1 => ?_)
 refine oas ?_
 refine oas ?_
 refine nq ?_
 refine W.seq ?_
 refine sr ?_
 refine ov (vlda 103) ?_
 refine cp rfl (fun w hp => rrepright_calls r hok w) ?_
 refine ov vnot ?_
 refine nq ?_
 refine W.cond rfl (fun g1 => ?_) (fun g1 => ?_)
 · refine W.seq ?_
   refine W.region ?_
   refine oas ?_
   refine oas ?_
   refine nq ?_
   refine W.ret ?_
   refine WQ.then_ret ?_
   refine WQ.ret2 Try.results46 (.tmp rfl) (.tmp rfl) ?_
   intro w' hp; have hrr : rB r = false := by simpa using g1
   rw [rN_f hrr, hrr]; exact ⟨none, rfl, rfl, hp.cov cov⟩
 · refine W.skip ?_
   refine WQ.then ?_
   refine W.seq ?_
   have hrr : rB r = true := by simpa using g1
   have hb := rB_bd hrr
   have hRl := repL_len hrr hok hlt
   have hbl := bF_len hc ht
   have hbb := bF_bytes hcb htb
   have hbn := bN_t hb.1
   refine W.region ?_
   refine ov (vfa0 35 68) ?_
   refine ov (vlda 68) ?_
   refine cgG rfl (fun w hp => rsbytes_calls r.st hc hcb ht htb w) (fun o12 h12 => ?_)
   refine omv ?_
   refine ov vex ?_
   refine ov vex ?_
   have hq12 := h12.cap
   refine oas ?_
   refine oas ?_
   refine nq ?_
   refine W.seq ?_
   apply W.j6
   · intro hJ
     refine dr (.q 0 (.q 1 (.q 2 (.q 4 (.q 5 (.q 6 (.q 8 (.q 9 (.q 10 (.q 11 (.q 12 (.l2 3 (.l 7 (.l 13 (.l 14 (.q 15 (.q 16 (.done)))))) 7 (.l 3 (.l 13 (.l 14 (.q 15 (.q 16 (.done)))))))))))))))))) [(b1, _)] ?_
     refine dq rfl (vfa0 0 1) ?_
     refine dq rfl vld ?_
     first | refine dq rfl (vcvN .u64) ?_ | refine dq rfl (vcv .u64) ?_
     refine dq rfl (vfa0 1 1) ?_
     refine dq rfl vld ?_
     first | refine dq rfl (vcvN .u8) ?_ | refine dq rfl (vcv .u8) ?_
     refine dq rfl (vfa0 2 1) ?_
     refine dq rfl vld ?_
     refine dq rfl (vfa0 3 32) ?_
     refine dq rfl (vslF 1 32) ?_
     refine dq rfl (V_move rfl) ?_
     refine WD.l2 ?_ ?_
     · refine dcgG rfl rfl (fun w hp => rhigh_calls _ 4 w sc sc) (fun o18 h18 => ?_)
       refine WD.l ?_
       refine dbsI (k := .u8) rfl 5 1 [_] (fun b22 => ?_)
       refine WD.l ?_
       refine dbs rfl 22 24 (fun b28 => ?_)
       refine WD.l ?_
       refine dcgG rfl rfl (fun w hp => rjoin_calls _ _ _ [highF r.id 4, [r.who], r.tl, r.op, bF r.st] w rw5 (by show (repL r).length ≤ 4000000; omega)) (fun o29 h29 => ?_)
       refine dq rfl (V_assign rfl) ?_
       refine dq rfl (V_assign rfl) ?_
       refine WD.done ?_
       exact WQ.pick (S' := [(0, _), (1, _), (2, _), (3, _), (8, _)]) [0, 1, 2, 3, 8] rfl (hJ o18 h18 b22 b28 o29 h29)
     · refine dbsI (k := .u8) rfl 5 1 [_] (fun b22 => ?_)
       refine WD.l ?_
       refine dcgG rfl rfl (fun w hp => rhigh_calls _ 4 w sc sc) (fun o18 h18 => ?_)
       refine WD.l ?_
       refine dbs rfl 22 24 (fun b28 => ?_)
       refine WD.l ?_
       refine dcgG rfl rfl (fun w hp => rjoin_calls _ _ _ [highF r.id 4, [r.who], r.tl, r.op, bF r.st] w rw5 (by show (repL r).length ≤ 4000000; omega)) (fun o29 h29 => ?_)
       refine dq rfl (V_assign rfl) ?_
       refine dq rfl (V_assign rfl) ?_
       refine WD.done ?_
       exact WQ.pick (S' := [(0, _), (1, _), (2, _), (3, _), (8, _)]) [0, 1, 2, 3, 8] rfl (hJ o18 h18 b22 b28 o29 h29)
   intro o18 h18 b22 b28 o29 h29
   refine WQ.then ?_
   refine W.ret ?_
   refine WQ.ret2 Try.results46 (.tmp rfl) (.tmp rfl) ?_
   intro w' hp; rw [rN_t hrr, hrr, rF_t hrr]; exact ⟨o29, h29, rfl, hp.cov cov⟩

end Go.Proofs.Ytbalnjejamigaaa