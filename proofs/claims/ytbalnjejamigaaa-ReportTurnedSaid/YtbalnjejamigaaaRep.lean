/- Reports. -/
import Derived.Test.YtbalnjejamigaaaPart
import Derived.Test.YtbalnjejamigaaaLaws16
set_option linter.unusedVariables false
set_option linter.unusedSimpArgs false

namespace Go.Proofs.Ytbalnjejamigaaa
open Go.X
structure RepS where
  id : Int
  who : Int
  ta : Option Addr
  tn : Nat
  tc : Nat
  tl : List Int
  op : List Int
  st : StampS
def RepS.V (r : RepS) : List Seg := [(1, [.int .i64 r.id]), (1, [.int .i64 r.who]), (1, [.slice r.ta r.tn r.tc]), (32, iv .u8 r.op), (1, [.int .i64 r.st.epoch]), (1, [.int .i64 r.st.fr]), (1, [.int .i64 r.st.to]), (1, [.int .i64 r.st.time]), (32, iv .u8 r.st.commit), (32, iv .u8 r.st.tag)]
def RepOK (r : RepS) : Prop := r.op.length = 32 ∧ bytes r.op ∧ r.st.commit.length = 32 ∧ bytes r.st.commit ∧ r.st.tag.length = 32 ∧ bytes r.st.tag ∧ bytes r.tl ∧ r.tn ≤ r.tc
def rB (r : RepS) : Bool := rightB r.st && timeB r.id && acB r.who && decide ((r.tn : Int) ≤ 250)
theorem rB_bd {r : RepS} (h : rB r = true) : rightB r.st = true ∧ (0 ≤ r.id ∧ r.id ≤ 1000000) ∧ (0 ≤ r.who ∧ r.who < 8) ∧ r.tn ≤ 250 := by
  simp only [rB, timeB, acB, Bool.and_eq_true, decide_eq_true_eq] at h
  exact ⟨h.1.1.1, h.1.1.2, h.1.2, by omega⟩
theorem rB_no {r : RepS} (h : ¬ (rightB r.st = true ∧ (0 ≤ r.id ∧ r.id ≤ 1000000) ∧ (0 ≤ r.who ∧ r.who < 8))) : rB r = false := by
  cases hq : rB r with
  | false => rfl
  | true => have := rB_bd hq; exact absurd ⟨this.1, this.2.1, this.2.2.1⟩ h
theorem rB_yes {r : RepS} (h : rightB r.st = true ∧ (0 ≤ r.id ∧ r.id ≤ 1000000) ∧ (0 ≤ r.who ∧ r.who < 8)) : rB r = decide ((r.tn : Int) ≤ 250) := by
  unfold rB timeB acB
  rw [h.1, decide_eq_true h.2.1.1, decide_eq_true h.2.1.2, decide_eq_true h.2.2.1, decide_eq_true h.2.2.2]; rfl
def repL (r : RepS) : List Int := joinF [highF r.id 4, [r.who], r.tl, r.op, bF r.st]
def rN (r : RepS) : Nat := if rB r then (repL r).length else 0
def rF (r : RepS) : List Int := if rB r then repL r else []
theorem rN_t {r : RepS} (h : rB r = true) : rN r = (repL r).length := by rw [rN, if_pos h]
theorem rN_f {r : RepS} (h : rB r = false) : rN r = 0 := by rw [rN, if_neg (by simp [h])]
theorem rF_t {r : RepS} (h : rB r = true) : rF r = repL r := by rw [rF, if_pos h]
theorem rF_f {r : RepS} (h : rB r = false) : rF r = [] := by rw [rF, if_neg (by simp [h])]
theorem repL_len {r : RepS} (h : rB r = true) (hok : RepOK r) (hl : r.tn = r.tl.length) : (repL r).length = 20 + 4 + 1 + r.tn + 32 + 74 := by
  obtain ⟨ho, -, hc, -, ht, -, -, -⟩ := hok
  have h1 := (rB_bd h).1
  have := bF_len hc ht
  rw [bN_t h1] at this
  simp [repL, joinF, ho, this]; omega

theorem repright_calls (r : RepS) (hok : RepOK r) (w : World) : Calls Try.prog 78 [AG r.V].toArray w fun e w' => e = .returned (.bool (rB r)) ∧ HP w w' [] [] := by
 obtain ⟨ho, hob, hc, hcb, ht, htb, htl, htc⟩ := id hok
 unfold RepS.V
 refine calls_of_W Try.func78 rfl Try.ntmps78 rfl rfl (HP.refl w []) ?_
 refine sr ?_
 refine obxa (fun b1 => ?_)
 refine oas ?_
 refine nx ?_
 refine ov (vfa0 35 68) ?_
 refine ov (vlda 68) ?_
 refine cgG rfl (fun w hp => sbytes_calls r.st hc hcb ht htb w) (fun o8 h8 => ?_)
 refine omv ?_
 refine ov vex ?_
 refine ov vex ?_
 refine oas ?_
 refine oas ?_
 refine nq ?_
 refine W.seq ?_
 by_cases hri : rightB r.st = true
 · refine W.region ?_
   refine omv ?_
   refine ov (v2 V_eql) ?_
   refine omv ?_
   refine oy rfl (decide_eq_true (by rw [if_pos hri])) ?_
   refine ov (vfa0 0 1) ?_
   refine oy rfl (decide_eq_true (by rw [if_pos hri])) ?_
   refine ov vld ?_
   refine oy rfl (decide_eq_true (by rw [if_pos hri])) ?_
   refine ov (v2 V_geq) ?_
   refine ov (V_pick_t rfl (decide_eq_true (by rw [if_pos hri])) rfl) ?_
   refine omv ?_
   refine WL.splitD rfl (fun g1 => ?_) (fun g1 => ?_)
   · refine oy rfl (decide_eq_true g1) ?_
     refine ov (vfa0 0 1) ?_
     refine oy rfl (decide_eq_true g1) ?_
     refine ov vld ?_
     refine oy rfl (decide_eq_true g1) ?_
     refine ov (v2 V_leq) ?_
     refine ov (V_pick_td rfl g1 rfl) ?_
     refine omv ?_
     refine WL.splitD rfl (fun g2 => ?_) (fun g2 => ?_)
     · refine oy rfl (decide_eq_true g2) ?_
       refine ov (vfa0 1 1) ?_
       refine oy rfl (decide_eq_true g2) ?_
       refine ov vld ?_
       refine oy rfl (decide_eq_true g2) ?_
       refine ov (v2 V_geq) ?_
       refine ov (V_pick_td rfl g2 rfl) ?_
       refine omv ?_
       refine WL.splitD rfl (fun g3 => ?_) (fun g3 => ?_)
       · refine oy rfl (decide_eq_true g3) ?_
         refine ov (vfa0 1 1) ?_
         refine oy rfl (decide_eq_true g3) ?_
         refine ov vld ?_
         refine oy rfl (decide_eq_true g3) ?_
         refine ov (v2 V_lss) ?_
         refine ov (V_pick_td rfl g3 rfl) ?_
         refine omv ?_
         refine WL.splitD rfl (fun g4 => ?_) (fun g4 => ?_)
         · refine oy rfl (decide_eq_true g4) ?_
           refine ov (vfa0 2 1) ?_
           refine oy rfl (decide_eq_true g4) ?_
           refine ov vld ?_
           refine oy rfl (decide_eq_true g4) ?_
           refine ov vlenS ?_
           refine oy rfl (decide_eq_true g4) ?_
           refine ov (v2 V_leq) ?_
           refine ov (V_pick_td rfl g4 rfl) ?_
           refine oas ?_
           refine nq ?_
           refine W.ret ?_
           refine WQ.ret1 Try.results78 (.tmp rfl) ?_
           intro w' hp; first | exact ⟨by rw [rB_yes ⟨hri, ⟨by omega, by omega⟩, ⟨by omega, by omega⟩⟩], hp.forget⟩ | exact ⟨by rw [rB_no (by rintro ⟨h1, h2, h3⟩; first | omega | exact hri h1)], hp.forget⟩
         · refine on rfl (decide_eq_false g4) ?_
           refine on rfl (decide_eq_false g4) ?_
           refine on rfl (decide_eq_false g4) ?_
           refine on rfl (decide_eq_false g4) ?_
           refine ov (V_pick_fd rfl g4 rfl) ?_
           refine oas ?_
           refine nq ?_
           refine W.ret ?_
           refine WQ.ret1 Try.results78 (.tmp rfl) ?_
           intro w' hp; first | exact ⟨by rw [rB_yes ⟨hri, ⟨by omega, by omega⟩, ⟨by omega, by omega⟩⟩], hp.forget⟩ | exact ⟨by rw [rB_no (by rintro ⟨h1, h2, h3⟩; first | omega | exact hri h1)], hp.forget⟩
       · refine on rfl (decide_eq_false g3) ?_
         refine on rfl (decide_eq_false g3) ?_
         refine on rfl (decide_eq_false g3) ?_
         refine ov (V_pick_fd rfl g3 rfl) ?_
         refine omv ?_
         refine on rfl rfl ?_
         refine on rfl rfl ?_
         refine on rfl rfl ?_
         refine on rfl rfl ?_
         refine ov (V_pick_f rfl rfl rfl) ?_
         refine oas ?_
         refine nq ?_
         refine W.ret ?_
         refine WQ.ret1 Try.results78 (.tmp rfl) ?_
         intro w' hp; first | exact ⟨by rw [rB_yes ⟨hri, ⟨by omega, by omega⟩, ⟨by omega, by omega⟩⟩], hp.forget⟩ | exact ⟨by rw [rB_no (by rintro ⟨h1, h2, h3⟩; first | omega | exact hri h1)], hp.forget⟩
     · refine on rfl (decide_eq_false g2) ?_
       refine on rfl (decide_eq_false g2) ?_
       refine on rfl (decide_eq_false g2) ?_
       refine ov (V_pick_fd rfl g2 rfl) ?_
       refine omv ?_
       refine on rfl rfl ?_
       refine on rfl rfl ?_
       refine on rfl rfl ?_
       refine ov (V_pick_f rfl rfl rfl) ?_
       refine omv ?_
       refine on rfl rfl ?_
       refine on rfl rfl ?_
       refine on rfl rfl ?_
       refine on rfl rfl ?_
       refine ov (V_pick_f rfl rfl rfl) ?_
       refine oas ?_
       refine nq ?_
       refine W.ret ?_
       refine WQ.ret1 Try.results78 (.tmp rfl) ?_
       intro w' hp; first | exact ⟨by rw [rB_yes ⟨hri, ⟨by omega, by omega⟩, ⟨by omega, by omega⟩⟩], hp.forget⟩ | exact ⟨by rw [rB_no (by rintro ⟨h1, h2, h3⟩; first | omega | exact hri h1)], hp.forget⟩
   · refine on rfl (decide_eq_false g1) ?_
     refine on rfl (decide_eq_false g1) ?_
     refine on rfl (decide_eq_false g1) ?_
     refine ov (V_pick_fd rfl g1 rfl) ?_
     refine omv ?_
     refine on rfl rfl ?_
     refine on rfl rfl ?_
     refine on rfl rfl ?_
     refine ov (V_pick_f rfl rfl rfl) ?_
     refine omv ?_
     refine on rfl rfl ?_
     refine on rfl rfl ?_
     refine on rfl rfl ?_
     refine ov (V_pick_f rfl rfl rfl) ?_
     refine omv ?_
     refine on rfl rfl ?_
     refine on rfl rfl ?_
     refine on rfl rfl ?_
     refine on rfl rfl ?_
     refine ov (V_pick_f rfl rfl rfl) ?_
     refine oas ?_
     refine nq ?_
     refine W.ret ?_
     refine WQ.ret1 Try.results78 (.tmp rfl) ?_
     intro w' hp; first | exact ⟨by rw [rB_yes ⟨hri, ⟨by omega, by omega⟩, ⟨by omega, by omega⟩⟩], hp.forget⟩ | exact ⟨by rw [rB_no (by rintro ⟨h1, h2, h3⟩; first | omega | exact hri h1)], hp.forget⟩
 · refine W.region ?_
   refine omv ?_
   refine ov (v2 V_eql) ?_
   refine omv ?_
   refine on rfl (decide_eq_false (by rw [if_neg hri]; decide)) ?_
   refine on rfl (decide_eq_false (by rw [if_neg hri]; decide)) ?_
   refine on rfl (decide_eq_false (by rw [if_neg hri]; decide)) ?_
   refine ov (V_pick_f rfl (decide_eq_false (by rw [if_neg hri]; decide)) rfl) ?_
   refine omv ?_
   refine on rfl rfl ?_
   refine on rfl rfl ?_
   refine on rfl rfl ?_
   refine ov (V_pick_f rfl rfl rfl) ?_
   refine omv ?_
   refine on rfl rfl ?_
   refine on rfl rfl ?_
   refine on rfl rfl ?_
   refine ov (V_pick_f rfl rfl rfl) ?_
   refine omv ?_
   refine on rfl rfl ?_
   refine on rfl rfl ?_
   refine on rfl rfl ?_
   refine ov (V_pick_f rfl rfl rfl) ?_
   refine omv ?_
   refine on rfl rfl ?_
   refine on rfl rfl ?_
   refine on rfl rfl ?_
   refine on rfl rfl ?_
   refine ov (V_pick_f rfl rfl rfl) ?_
   refine oas ?_
   refine nq ?_
   refine W.ret ?_
   refine WQ.ret1 Try.results78 (.tmp rfl) ?_
   intro w' hp; first | exact ⟨by rw [rB_yes ⟨hri, ⟨by omega, by omega⟩, ⟨by omega, by omega⟩⟩], hp.forget⟩ | exact ⟨by rw [rB_no (by rintro ⟨h1, h2, h3⟩; first | omega | exact hri h1)], hp.forget⟩

theorem repbytes_calls (r : RepS) (hok : RepOK r) (w : World) (hT : SrW w 1 r.ta r.tn (iv .u8 r.tl)) :
    Calls Try.prog 45 [AG r.V].toArray w fun e w' => ∃ o : Gr, GrOK o (rN r) ∧ e = .returned (.tuple #[.slice (gA o) (rN r) (gC o), .int .i64 (if rB r then 0 else 1)]) ∧ HP w w' [] (gL o (rN r) (iv .u8 (rF r)) 5) := by
 obtain ⟨ho, hob, hc, hcb, ht, htb, htl, htc⟩ := id hok
 have hlt := SrW.ilen hT
 unfold RepS.V
 refine calls_of_W Try.func45 rfl Try.ntmps45 rfl rfl (HP.refl w []) ?_
 refine sr ?_
 refine obxa (fun b1 => ?_)
 refine oas ?_
 refine oas ?_
 refine nq ?_
 refine W.seq ?_
 refine sr ?_
 refine ov (vlda 103) ?_
 refine cp rfl (fun w hp => repright_calls r hok w) ?_
 refine ov vnot ?_
 refine nq ?_
 refine W.cond rfl (fun g1 => ?_) (fun g1 => ?_)
 · refine W.seq ?_
   refine W.region ?_
   refine oas ?_
   refine oas ?_
   refine nq ?_
   refine W.ret ?_
   refine WQ.then_ret ?_
   refine WQ.ret2 Try.results45 (.tmp rfl) (.tmp rfl) ?_
   intro w' hp; have hrr : rB r = false := by simpa using g1
   rw [rN_f hrr, hrr]; exact ⟨none, rfl, rfl, hp.cov cov⟩
 · refine W.skip ?_
   refine WQ.then ?_
   refine W.seq ?_
   have hrr : rB r = true := by simpa using g1
   have hb := rB_bd hrr
   have hRl := repL_len hrr hok hlt
   have hbl := bF_len hc ht
   have hbb := bF_bytes hcb htb
   have hbn := bN_t hb.1
   refine W.region ?_
   refine ov (vfa0 35 68) ?_
   refine ov (vlda 68) ?_
   refine cgG rfl (fun w hp => sbytes_calls r.st hc hcb ht htb w) (fun o12 h12 => ?_)
   refine omv ?_
   refine ov vex ?_
   refine ov vex ?_
   have hq12 := h12.cap
   refine oas ?_
   refine oas ?_
   refine nq ?_
   refine W.seq ?_
   apply W.j6
   · intro hJ
     refine dr (.q 0 (.q 1 (.q 2 (.q 4 (.q 5 (.q 6 (.q 8 (.q 9 (.q 10 (.q 11 (.q 12 (.l2 3 (.l 7 (.l 13 (.l 14 (.q 15 (.q 16 (.done)))))) 7 (.l 3 (.l 13 (.l 14 (.q 15 (.q 16 (.done)))))))))))))))))) [(b1, _)] ?_
     refine dq rfl (vfa0 0 1) ?_
     refine dq rfl vld ?_
     first | refine dq rfl (vcvN .u64) ?_ | refine dq rfl (vcv .u64) ?_
     refine dq rfl (vfa0 1 1) ?_
     refine dq rfl vld ?_
     first | refine dq rfl (vcvN .u8) ?_ | refine dq rfl (vcv .u8) ?_
     refine dq rfl (vfa0 2 1) ?_
     refine dq rfl vld ?_
     refine dq rfl (vfa0 3 32) ?_
     refine dq rfl (vslF 1 32) ?_
     refine dq rfl (V_move rfl) ?_
     refine WD.l2 ?_ ?_
     · refine dcg rfl rfl (fun w hp => high_calls _ 4 w sc) (fun b18 h18 => ?_)
       refine WD.l ?_
       refine dbsI (k := .u8) rfl 5 1 [_] (fun b22 => ?_)
       refine WD.l ?_
       refine dbs rfl 22 24 (fun b28 => ?_)
       refine WD.l ?_
       refine dcgG rfl rfl (fun w hp => join_calls _ _ _ [highF r.id 4, [r.who], r.tl, r.op, bF r.st] w rw5 (by show (repL r).length ≤ 4000000; omega)) (fun o29 h29 => ?_)
       refine dq rfl (V_assign rfl) ?_
       refine dq rfl (V_assign rfl) ?_
       refine WD.done ?_
       exact WQ.pick (S' := [(0, _), (1, _), (2, _), (3, _), (8, _)]) [0, 1, 2, 3, 8] rfl (hJ b18 h18 b22 b28 o29 h29)
     · refine dbsI (k := .u8) rfl 5 1 [_] (fun b22 => ?_)
       refine WD.l ?_
       refine dcg rfl rfl (fun w hp => high_calls _ 4 w sc) (fun b18 h18 => ?_)
       refine WD.l ?_
       refine dbs rfl 22 24 (fun b28 => ?_)
       refine WD.l ?_
       refine dcgG rfl rfl (fun w hp => join_calls _ _ _ [highF r.id 4, [r.who], r.tl, r.op, bF r.st] w rw5 (by show (repL r).length ≤ 4000000; omega)) (fun o29 h29 => ?_)
       refine dq rfl (V_assign rfl) ?_
       refine dq rfl (V_assign rfl) ?_
       refine WD.done ?_
       exact WQ.pick (S' := [(0, _), (1, _), (2, _), (3, _), (8, _)]) [0, 1, 2, 3, 8] rfl (WQ.cov _ (hJ b18 h18 b22 b28 o29 h29))
   intro b18 h18 b22 b28 o29 h29
   refine WQ.then ?_
   refine W.ret ?_
   refine WQ.ret2 Try.results45 (.tmp rfl) (.tmp rfl) ?_
   intro w' hp; rw [rN_t hrr, hrr, rF_t hrr]; exact ⟨o29, h29, rfl, hp.cov cov⟩

end Go.Proofs.Ytbalnjejamigaaa