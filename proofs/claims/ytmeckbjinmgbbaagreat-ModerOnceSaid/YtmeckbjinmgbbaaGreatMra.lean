/- Reports. -/
import Derived.Test.YtmeckbjinmgbbaaGreatPart
import Derived.Test.YtmeckbjinmgbbaaGreatLaws16
set_option linter.unusedVariables false
set_option linter.unusedSimpArgs false

namespace Go.Proofs.YtmeckbjinmgbbaaGreat
open Go.X
structure RepS where
  id : Int
  who : Int
  ta : Option Addr
  tn : Nat
  tc : Nat
  tl : List Int
  op : List Int
  st : StampS
def RepS.V (r : RepS) : List Seg := [(1, [.int .i64 r.id]), (1, [.int .i64 r.who]), (1, [.slice r.ta r.tn r.tc]), (32, iv .u8 r.op), (1, [.int .i64 r.st.epoch]), (1, [.int .i64 r.st.fr]), (1, [.int .i64 r.st.to]), (1, [.int .i64 r.st.time]), (32, iv .u8 r.st.commit), (32, iv .u8 r.st.tag)]
def RepOK (r : RepS) : Prop := r.op.length = 32 ∧ bytes r.op ∧ r.st.commit.length = 32 ∧ bytes r.st.commit ∧ r.st.tag.length = 32 ∧ bytes r.st.tag ∧ bytes r.tl ∧ r.tn ≤ r.tc
def rB (r : RepS) : Bool := rightB r.st && timeB r.id && acB r.who && decide ((r.tn : Int) ≤ 250)
theorem rB_bd {r : RepS} (h : rB r = true) : rightB r.st = true ∧ (0 ≤ r.id ∧ r.id ≤ 1000000) ∧ (0 ≤ r.who ∧ r.who < 8) ∧ r.tn ≤ 250 := by
  simp only [rB, timeB, acB, Bool.and_eq_true, decide_eq_true_eq] at h
  exact ⟨h.1.1.1, h.1.1.2, h.1.2, by omega⟩
theorem rB_no {r : RepS} (h : ¬ (rightB r.st = true ∧ (0 ≤ r.id ∧ r.id ≤ 1000000) ∧ (0 ≤ r.who ∧ r.who < 8))) : rB r = false := by
  cases hq : rB r with
  | false => rfl
  | true => have := rB_bd hq; exact absurd ⟨this.1, this.2.1, this.2.2.1⟩ h
theorem rB_yes {r : RepS} (h : rightB r.st = true ∧ (0 ≤ r.id ∧ r.id ≤ 1000000) ∧ (0 ≤ r.who ∧ r.who < 8)) : rB r = decide ((r.tn : Int) ≤ 250) := by
  unfold rB timeB acB
  rw [h.1, decide_eq_true h.2.1.1, decide_eq_true h.2.1.2, decide_eq_true h.2.2.1, decide_eq_true h.2.2.2]; rfl
def repL (r : RepS) : List Int := joinF [highF r.id 4, [r.who], r.tl, r.op, bF r.st]
def rN (r : RepS) : Nat := if rB r then (repL r).length else 0
def rF (r : RepS) : List Int := if rB r then repL r else []
theorem rN_t {r : RepS} (h : rB r = true) : rN r = (repL r).length := by rw [rN, if_pos h]
theorem rN_f {r : RepS} (h : rB r = false) : rN r = 0 := by rw [rN, if_neg (by simp [h])]
theorem rF_t {r : RepS} (h : rB r = true) : rF r = repL r := by rw [rF, if_pos h]
theorem repL_len {r : RepS} (h : rB r = true) (hok : RepOK r) (hl : r.tn = r.tl.length) : (repL r).length = 20 + 4 + 1 + r.tn + 32 + 74 := by
  obtain ⟨ho, -, hc, -, ht, -, -, -⟩ := hok
  have h1 := (rB_bd h).1
  have := bF_len hc ht
  rw [bN_t h1] at this
  simp [repL, joinF, ho, this]; omega

theorem repright_calls (r : RepS) (hok : RepOK r) (w : World) : Calls Tryz.prog 67 [AG r.V].toArray w fun e w' => e = .returned (.bool (rB r)) ∧ HP w w' [] [] := by
 obtain ⟨ho, hob, hc, hcb, ht, htb, htl, htc⟩ := id hok
 unfold RepS.V
 refine calls_of_W Tryz.func67 rfl Tryz.ntmps67 rfl rfl (HP.refl w []) ?_
 refine sr ?_
 refine obxa (fun b1 => ?_)
 refine oas ?_
 refine nx ?_
 refine ov (vfa0 35 68) ?_
 refine ov (vlda 68) ?_
 refine cgG rfl (fun w hp => sbytes_calls r.st hc hcb ht htb w) (fun o8 h8 => ?_)
 refine omv ?_
 refine ov vex ?_
 refine ov vex ?_
 refine oas ?_
 refine oas ?_
 refine nq ?_
 refine W.seq ?_
 by_cases hri : rightB r.st = true
 · refine W.region ?_
   refine omv ?_
   refine ov (v2 V_eql) ?_
   refine omv ?_
   refine oy rfl (decide_eq_true (by rw [if_pos hri])) ?_
   refine ov (vfa0 0 1) ?_
   refine oy rfl (decide_eq_true (by rw [if_pos hri])) ?_
   refine ov vld ?_
   refine oy rfl (decide_eq_true (by rw [if_pos hri])) ?_
   refine ov (v2 V_geq) ?_
   refine ov (V_pick_t rfl (decide_eq_true (by rw [if_pos hri])) rfl) ?_
   refine omv ?_
   refine WL.splitD rfl (fun g1 => ?_) (fun g1 => ?_)
   · refine oy rfl (decide_eq_true g1) ?_
     refine ov (vfa0 0 1) ?_
     refine oy rfl (decide_eq_true g1) ?_
     refine ov vld ?_
     refine oy rfl (decide_eq_true g1) ?_
     refine ov (v2 V_leq) ?_
     refine ov (V_pick_td rfl g1 rfl) ?_
     refine omv ?_
     refine WL.splitD rfl (fun g2 => ?_) (fun g2 => ?_)
     · refine oy rfl (decide_eq_true g2) ?_
       refine ov (vfa0 1 1) ?_
       refine oy rfl (decide_eq_true g2) ?_
       refine ov vld ?_
       refine oy rfl (decide_eq_true g2) ?_
       refine ov (v2 V_geq) ?_
       refine ov (V_pick_td rfl g2 rfl) ?_
       refine omv ?_
       refine WL.splitD rfl (fun g3 => ?_) (fun g3 => ?_)
       · refine oy rfl (decide_eq_true g3) ?_
         refine ov (vfa0 1 1) ?_
         refine oy rfl (decide_eq_true g3) ?_
         refine ov vld ?_
         refine oy rfl (decide_eq_true g3) ?_
         refine ov (v2 V_lss) ?_
         refine ov (V_pick_td rfl g3 rfl) ?_
         refine omv ?_
         refine WL.splitD rfl (fun g4 => ?_) (fun g4 => ?_)
         · refine oy rfl (decide_eq_true g4) ?_
           refine ov (vfa0 2 1) ?_
           refine oy rfl (decide_eq_true g4) ?_
           refine ov vld ?_
           refine oy rfl (decide_eq_true g4) ?_
           refine ov vlenS ?_
           refine oy rfl (decide_eq_true g4) ?_
           refine ov (v2 V_leq) ?_
           refine ov (V_pick_td rfl g4 rfl) ?_
           refine oas ?_
           refine nq ?_
           refine W.ret ?_
           refine WQ.ret1 Tryz.results67 (.tmp rfl) ?_
           intro w' hp; first | exact ⟨by rw [rB_yes ⟨hri, ⟨by omega, by omega⟩, ⟨by omega, by omega⟩⟩], hp.forget⟩ | exact ⟨by rw [rB_no (by rintro ⟨h1, h2, h3⟩; first | omega | exact hri h1)], hp.forget⟩
         · refine on rfl (decide_eq_false g4) ?_
           refine on rfl (decide_eq_false g4) ?_
           refine on rfl (decide_eq_false g4) ?_
           refine on rfl (decide_eq_false g4) ?_
           refine ov (V_pick_fd rfl g4 rfl) ?_
           refine oas ?_
           refine nq ?_
           refine W.ret ?_
           refine WQ.ret1 Tryz.results67 (.tmp rfl) ?_
           intro w' hp; first | exact ⟨by rw [rB_yes ⟨hri, ⟨by omega, by omega⟩, ⟨by omega, by omega⟩⟩], hp.forget⟩ | exact ⟨by rw [rB_no (by rintro ⟨h1, h2, h3⟩; first | omega | exact hri h1)], hp.forget⟩
       · refine on rfl (decide_eq_false g3) ?_
         refine on rfl (decide_eq_false g3) ?_
         refine on rfl (decide_eq_false g3) ?_
         refine ov (V_pick_fd rfl g3 rfl) ?_
         refine omv ?_
         refine on rfl rfl ?_
         refine on rfl rfl ?_
         refine on rfl rfl ?_
         refine on rfl rfl ?_
         refine ov (V_pick_f rfl rfl rfl) ?_
         refine oas ?_
         refine nq ?_
         refine W.ret ?_
         refine WQ.ret1 Tryz.results67 (.tmp rfl) ?_
         intro w' hp; first | exact ⟨by rw [rB_yes ⟨hri, ⟨by omega, by omega⟩, ⟨by omega, by omega⟩⟩], hp.forget⟩ | exact ⟨by rw [rB_no (by rintro ⟨h1, h2, h3⟩; first | omega | exact hri h1)], hp.forget⟩
     · refine on rfl (decide_eq_false g2) ?_
       refine on rfl (decide_eq_false g2) ?_
       refine on rfl (decide_eq_false g2) ?_
       refine ov (V_pick_fd rfl g2 rfl) ?_
       refine omv ?_
       refine on rfl rfl ?_
       refine on rfl rfl ?_
       refine on rfl rfl ?_
       refine ov (V_pick_f rfl rfl rfl) ?_
       refine omv ?_
       refine on rfl rfl ?_
       refine on rfl rfl ?_
       refine on rfl rfl ?_
       refine on rfl rfl ?_
       refine ov (V_pick_f rfl rfl rfl) ?_
       refine oas ?_
       refine nq ?_
       refine W.ret ?_
       refine WQ.ret1 Tryz.results67 (.tmp rfl) ?_
       intro w' hp; first | exact ⟨by rw [rB_yes ⟨hri, ⟨by omega, by omega⟩, ⟨by omega, by omega⟩⟩], hp.forget⟩ | exact ⟨by rw [rB_no (by rintro ⟨h1, h2, h3⟩; first | omega | exact hri h1)], hp.forget⟩
   · refine on rfl (decide_eq_false g1) ?_
     refine on rfl (decide_eq_false g1) ?_
     refine on rfl (decide_eq_false g1) ?_
     refine ov (V_pick_fd rfl g1 rfl) ?_
     refine omv ?_
     refine on rfl rfl ?_
     refine on rfl rfl ?_
     refine on rfl rfl ?_
     refine ov (V_pick_f rfl rfl rfl) ?_
     refine omv ?_
     refine on rfl rfl ?_
     refine on rfl rfl ?_
     refine on rfl rfl ?_
     refine ov (V_pick_f rfl rfl rfl) ?_
     refine omv ?_
     refine on rfl rfl ?_
     refine on rfl rfl ?_
     refine on rfl rfl ?_
     refine on rfl rfl ?_
     refine ov (V_pick_f rfl rfl rfl) ?_
     refine oas ?_
     refine nq ?_
     refine W.ret ?_
     refine WQ.ret1 Tryz.results67 (.tmp rfl) ?_
     intro w' hp; first | exact ⟨by rw [rB_yes ⟨hri, ⟨by omega, by omega⟩, ⟨by omega, by omega⟩⟩], hp.forget⟩ | exact ⟨by rw [rB_no (by rintro ⟨h1, h2, h3⟩; first | omega | exact hri h1)], hp.forget⟩
 · refine W.region ?_
   refine omv ?_
   refine ov (v2 V_eql) ?_
   refine omv ?_
   refine on rfl (decide_eq_false (by rw [if_neg hri]; decide)) ?_
   refine on rfl (decide_eq_false (by rw [if_neg hri]; decide)) ?_
   refine on rfl (decide_eq_false (by rw [if_neg hri]; decide)) ?_
   refine ov (V_pick_f rfl (decide_eq_false (by rw [if_neg hri]; decide)) rfl) ?_
   refine omv ?_
   refine on rfl rfl ?_
   refine on rfl rfl ?_
   refine on rfl rfl ?_
   refine ov (V_pick_f rfl rfl rfl) ?_
   refine omv ?_
   refine on rfl rfl ?_
   refine on rfl rfl ?_
   refine on rfl rfl ?_
   refine ov (V_pick_f rfl rfl rfl) ?_
   refine omv ?_
   refine on rfl rfl ?_
   refine on rfl rfl ?_
   refine on rfl rfl ?_
   refine ov (V_pick_f rfl rfl rfl) ?_
   refine omv ?_
   refine on rfl rfl ?_
   refine on rfl rfl ?_
   refine on rfl rfl ?_
   refine on rfl rfl ?_
   refine ov (V_pick_f rfl rfl rfl) ?_
   refine oas ?_
   refine nq ?_
   refine W.ret ?_
   refine WQ.ret1 Tryz.results67 (.tmp rfl) ?_
   intro w' hp; first | exact ⟨by rw [rB_yes ⟨hri, ⟨by omega, by omega⟩, ⟨by omega, by omega⟩⟩], hp.forget⟩ | exact ⟨by rw [rB_no (by rintro ⟨h1, h2, h3⟩; first | omega | exact hri h1)], hp.forget⟩

end Go.Proofs.YtmeckbjinmgbbaaGreat
/- Reports, on: checks; the document's answer. -/
namespace Go.Proofs.YtmeckbjinmgbbaaGreat
open Go.X
def comL (r : RepS) : List Int := macF r.op (joinF [[r.st.fr], [r.st.to], r.tl])
def repChk (root : List Int) (ticks : Int) (r : RepS) (now : Int) : Int :=
  if rB r = true ∧ r.who = r.st.to then (if checkF root ticks r.st now = 0 then (if comL r = r.st.commit then 0 else 4) else checkF root ticks r.st now) else 1
section
variable {root : List Int} {ticks now : Int} {r : RepS}
theorem rc1 (h : ¬ (rB r = true ∧ r.who = r.st.to)) : repChk root ticks r now = 1 := if_neg h
theorem rcE (h : rB r = true ∧ r.who = r.st.to) (h2 : checkF root ticks r.st now ≠ 0) : repChk root ticks r now = checkF root ticks r.st now := by unfold repChk; rw [if_pos h, if_neg h2]
theorem rcO (h : rB r = true ∧ r.who = r.st.to) (h2 : checkF root ticks r.st now = 0) : repChk root ticks r now = if comL r = r.st.commit then 0 else 4 := by unfold repChk; rw [if_pos h, if_pos h2]
theorem com_bd (h : r.tn ≤ 250) (hl : r.tn = r.tl.length) : (joinF [[r.st.fr], [r.st.to], r.tl]).length ≤ 4000000 := by simp [joinF]; omega
theorem com_bytes (h : (0 ≤ r.st.fr ∧ r.st.fr < 8) ∧ 0 ≤ r.st.to ∧ r.st.to < 8) (hb : bytes r.tl) : ∀ l ∈ [[r.st.fr], [r.st.to], r.tl], bytes l := by
  intro l hl
  simp only [List.mem_cons, List.not_mem_nil, or_false] at hl
  rcases hl with rfl | rfl | rfl
  · intro c hc; rw [List.mem_singleton.1 hc]; omega
  · intro c hc; rw [List.mem_singleton.1 hc]; omega
  · exact hb
end

theorem repchk_calls (r : RepS) (now : Int) (hok : RepOK r) (R : Rel) (ticks : Int) (root : List Int) (m : List Ent) (clock : Nat) (w : World) (hR : RelAt w R ticks root) (hm : (Blk.obj (mapO .i64 m clock)).Is w.heap[R.m]?) (hg : Good root m) (hl : root.length = 32) (hrb : bytes root) (hT : SrW w 1 r.ta r.tn (iv .u8 r.tl)) (hti : 1 ≤ ticks) :
    Calls Tryz.prog 32 [.pointer (some ⟨R.r, 0, none⟩), AG r.V, .int .i64 now].toArray w fun e w' => ∃ q : List Ent × Nat, Good root q.1 ∧ e = .returned (.int .i64 (repChk root ticks r now)) ∧ HP w w' [R.m] [(R.m, .obj (mapO .i64 q.1 q.2))] := by
 obtain ⟨hr, hv, hk⟩ := hR
 have hne1 : R.r ≠ R.m := hr.neObj hm
 have hne2 : R.v ≠ R.m := hv.neObj hm
 have hne3 : R.k ≠ R.m := hk.neObj hm
 have hT' : ∀ w' L, HP w w' [R.m] L → SrW w' 1 r.ta r.tn (iv .u8 r.tl) := fun w' L hp => hp.soldO hT hm
 obtain ⟨ho, hob, hc, hcb, ht, htb, htl, htc⟩ := id hok
 have hlt := SrW.ilen hT
 unfold RepS.V
 refine calls_of_W Tryz.func32 rfl Tryz.ntmps32 rfl rfl (HP.start1 hm) ?_
 refine sr ?_
 refine obxa (fun b4 => ?_)
 refine oas ?_
 refine nx ?_
 refine ov (vfa0 35 68) ?_
 refine ov (vlda 68) ?_
 refine oal [(1, [.int .i64 0]), (1, [.int .i64 0]), (1, [.int .i64 0]), (1, [.int .i64 0]), (32, List.replicate 32 (.int .u8 0)), (32, List.replicate 32 (.int .u8 0))] (fun b7 => ?_)
 refine osta 68 ?_
 refine nq ?_
 refine W.seq ?_
 refine W.seq ?_
 by_cases hrr : rB r = true ∧ r.who = r.st.to
 · have hb := rB_bd hrr.1
   have hb3 := right_bd hb.1
   have hb : ((0 ≤ r.st.fr ∧ r.st.fr < 8) ∧ 0 ≤ r.st.to ∧ r.st.to < 8) ∧ r.tn ≤ 250 := ⟨hb3.2.2, hb.2.2.2⟩
   refine W.region ?_
   refine ov (vlda 103) ?_
   refine cp rfl (fun w hp => repright_calls r hok w) ?_
   refine ov vnot ?_
   refine omv ?_
   refine oy rfl (by rw [hrr.1]; rfl) ?_
   refine ov (vfa0 1 1) ?_
   refine oy rfl (by rw [hrr.1]; rfl) ?_
   refine ov vld ?_
   refine oy rfl (by rw [hrr.1]; rfl) ?_
   refine ov (vfa0 2 1) ?_
   refine oy rfl (by rw [hrr.1]; rfl) ?_
   refine ov vld ?_
   refine oy rfl (by rw [hrr.1]; rfl) ?_
   refine ov (v2 V_neq) ?_
   refine ov (V_pick_f rfl (by rw [hrr.1]; rfl) rfl) ?_
   refine nq ?_
   refine W.cond_false rfl (by simp [hrr.2]) ?_
   refine W.skip ?_
   refine WQ.then ?_
   refine W.seq ?_
   refine sr ?_
   refine omv ?_
   refine ov (vlda 68) ?_
   refine omv ?_
   refine cg rfl (fun w hp => chk16_calls r.st now hc hcb ht htb R ticks root m clock w rat (hh hp) hg hl hrb hti) (fun b24 h24 => ?_)
   refine oas ?_
   refine nx ?_
   refine omv ?_
   refine ov (v2 V_neq) ?_
   refine nq ?_
   refine W.cond_dec rfl (fun g1 => ?_) (fun g1 => ?_)
   · refine W.seq ?_
     refine W.region ?_
     refine omv ?_
     refine oas ?_
     refine nq ?_
     refine W.ret ?_
     refine WQ.then_ret ?_
     refine WQ.ret1 Tryz.results32 (.tmp rfl) ?_
     intro w' hp; rw [rcE hrr (by simpa using g1)]; exact ⟨b24, h24, rfl, hp.cov cov⟩
   · refine W.skip ?_
     refine WQ.then ?_
     refine sr ?_
     refine ov (vfa0 4 32) ?_
     refine ov (vlda 32) ?_
     refine ov (vfa0 3 32) ?_
     refine ov (vlda 32) ?_
     refine ov (vfa0 1 1) ?_
     refine ov vld ?_
     first | refine ov (vcvN .u8) ?_ | refine ov (vcv .u8) ?_
     refine obsI (k := .u8) 5 1 [_] (fun b35 => ?_)
     refine ov (vfa0 2 1) ?_
     refine ov vld ?_
     first | refine ov (vcvN .u8) ?_ | refine ov (vcv .u8) ?_
     refine obsI (k := .u8) 5 1 [_] (fun b39 => ?_)
     refine ov (vfa0 2 1) ?_
     refine ov vld ?_
     refine obs 35 24 (fun b42 => ?_)
     refine cp rfl (fun w hp => check_calls14 r.st.commit r.op hc ho hob _ _ _ [[r.st.fr], [r.st.to], r.tl] w (rw3 (h3 := rwo (h3 := hT' _ _ hp))) (com_bytes hb.1 htl) (com_bd hb.2 hlt)) ?_
     refine oas ?_
     refine nq ?_
     refine W.ret ?_
     refine WQ.ret1 Tryz.results32 (.tmp rfl) ?_
     intro w' hp; rw [rcO hrr (by simpa using g1)]; exact ⟨b24, h24, rfl, hp.cov cov⟩
 · refine W.region ?_
   refine ov (vlda 103) ?_
   refine cp rfl (fun w hp => repright_calls r hok w) ?_
   refine ov vnot ?_
   refine omv ?_
   refine WL.split rfl (fun g2 => ?_) (fun g2 => ?_)
   · refine on rfl g2 ?_
     refine on rfl g2 ?_
     refine on rfl g2 ?_
     refine on rfl g2 ?_
     refine on rfl g2 ?_
     refine ov (V_pick_t rfl g2 rfl) ?_
     refine nq ?_
     refine W.cond_true rfl rfl ?_
     refine sr ?_
     refine oas ?_
     refine nq ?_
     refine W.ret ?_
     refine WQ.then_ret ?_
     refine WQ.ret1 Tryz.results32 (.tmp rfl) ?_
     intro w' hp; rw [rc1 hrr]; exact ⟨(m, clock), hg, rfl, hp.cov cov⟩
   · refine oy rfl g2 ?_
     refine ov (vfa0 1 1) ?_
     refine oy rfl g2 ?_
     refine ov vld ?_
     refine oy rfl g2 ?_
     refine ov (vfa0 2 1) ?_
     refine oy rfl g2 ?_
     refine ov vld ?_
     refine oy rfl g2 ?_
     refine ov (v2 V_neq) ?_
     refine ov (V_pick_f rfl g2 rfl) ?_
     refine nq ?_
     refine W.cond_true rfl (decide_eq_true (by intro e; exact hrr ⟨by simp_all, e⟩)) ?_
     refine sr ?_
     refine oas ?_
     refine nq ?_
     refine W.ret ?_
     refine WQ.then_ret ?_
     refine WQ.ret1 Tryz.results32 (.tmp rfl) ?_
     intro w' hp; rw [rc1 hrr]; exact ⟨(m, clock), hg, rfl, hp.cov cov⟩

theorem rB_no2 {r : RepS} (h : ¬ (timeB r.id = true ∧ (0 ≤ r.who ∧ r.who ≤ 7) ∧ r.tn ≤ 250)) : rB r = false := by
  cases hq : rB r with
  | false => rfl
  | true => have := rB_bd hq; exact absurd ⟨by simp [timeB]; omega, by omega, this.2.2.2⟩ h
theorem rB_yes2 {r : RepS} (h : timeB r.id = true ∧ (0 ≤ r.who ∧ r.who ≤ 7) ∧ r.tn ≤ 250) : rB r = rightB r.st := by
  unfold rB acB
  rw [h.1, decide_eq_true h.2.1.1, decide_eq_true (show r.who < 8 by omega), decide_eq_true (show (r.tn : Int) ≤ 250 by omega)]; simp

theorem rrepright_calls (r : RepS) (hok : RepOK r) (w : World) : Calls Tryz.prog 72 [AG r.V].toArray w fun e w' => e = .returned (.bool (rB r)) ∧ HP w w' [] [] := by
 obtain ⟨ho, hob, hc, hcb, ht, htb, htl, htc⟩ := id hok
 unfold RepS.V
 refine calls_of_W Tryz.func72 rfl Tryz.ntmps72 rfl rfl (HP.refl w []) ?_
 refine sr ?_
 refine obxa (fun b1 => ?_)
 refine oas ?_
 refine nx ?_
 refine ov (vfa0 0 1) ?_
 refine ov vld ?_
 refine cp rfl (fun w hp => rtime_calls _ w) ?_
 refine omv ?_
 refine WL.split rfl (fun g1 => ?_) (fun g1 => ?_)
 · refine oy rfl g1 ?_
   refine ov (vfa0 1 1) ?_
   refine oy rfl g1 ?_
   refine ov vld ?_
   refine oy rfl g1 ?_
   refine ov (v2 V_geq) ?_
   refine ov (V_pick_t rfl g1 rfl) ?_
   refine omv ?_
   refine WL.splitD rfl (fun g2 => ?_) (fun g2 => ?_)
   · refine oy rfl (decide_eq_true g2) ?_
     refine ov (vfa0 1 1) ?_
     refine oy rfl (decide_eq_true g2) ?_
     refine ov vld ?_
     refine oy rfl (decide_eq_true g2) ?_
     refine ov (v2 V_leq) ?_
     refine ov (V_pick_td rfl g2 rfl) ?_
     refine omv ?_
     refine WL.splitD rfl (fun g3 => ?_) (fun g3 => ?_)
     · refine oy rfl (decide_eq_true g3) ?_
       refine ov (vfa0 2 1) ?_
       refine oy rfl (decide_eq_true g3) ?_
       refine ov vld ?_
       refine oy rfl (decide_eq_true g3) ?_
       refine ov vlenS ?_
       refine oy rfl (decide_eq_true g3) ?_
       refine ov (v2 V_leq) ?_
       refine ov (V_pick_td rfl g3 rfl) ?_
       refine omv ?_
       refine WL.splitD rfl (fun g4 => ?_) (fun g4 => ?_)
       · refine oy rfl (decide_eq_true g4) ?_
         refine ov (vfa0 35 68) ?_
         refine oy rfl (decide_eq_true g4) ?_
         refine ov (vlda 68) ?_
         refine oy rfl (decide_eq_true g4) ?_
         refine cp rfl (fun w hp => rright_calls r.st hc ht w) ?_
         refine ov (V_pick_td rfl g4 rfl) ?_
         refine oas ?_
         refine nq ?_
         refine W.ret ?_
         refine WQ.ret1 Tryz.results72 (.tmp rfl) ?_
         intro w' hp; first | exact ⟨by rw [rB_yes2 ⟨by assumption, ⟨by omega, by omega⟩, by omega⟩], hp.forget⟩ | exact ⟨by rw [rB_no2 (by rintro ⟨h1, h2, h3⟩; first | omega | simp_all)], hp.forget⟩
       · refine on rfl (decide_eq_false g4) ?_
         refine on rfl (decide_eq_false g4) ?_
         refine on rfl (decide_eq_false g4) ?_
         refine ov (V_pick_fd rfl g4 rfl) ?_
         refine oas ?_
         refine nq ?_
         refine W.ret ?_
         refine WQ.ret1 Tryz.results72 (.tmp rfl) ?_
         intro w' hp; first | exact ⟨by rw [rB_yes2 ⟨by assumption, ⟨by omega, by omega⟩, by omega⟩], hp.forget⟩ | exact ⟨by rw [rB_no2 (by rintro ⟨h1, h2, h3⟩; first | omega | simp_all)], hp.forget⟩
     · refine on rfl (decide_eq_false g3) ?_
       refine on rfl (decide_eq_false g3) ?_
       refine on rfl (decide_eq_false g3) ?_
       refine on rfl (decide_eq_false g3) ?_
       refine ov (V_pick_fd rfl g3 rfl) ?_
       refine omv ?_
       refine on rfl rfl ?_
       refine on rfl rfl ?_
       refine on rfl rfl ?_
       refine ov (V_pick_f rfl rfl rfl) ?_
       refine oas ?_
       refine nq ?_
       refine W.ret ?_
       refine WQ.ret1 Tryz.results72 (.tmp rfl) ?_
       intro w' hp; first | exact ⟨by rw [rB_yes2 ⟨by assumption, ⟨by omega, by omega⟩, by omega⟩], hp.forget⟩ | exact ⟨by rw [rB_no2 (by rintro ⟨h1, h2, h3⟩; first | omega | simp_all)], hp.forget⟩
   · refine on rfl (decide_eq_false g2) ?_
     refine on rfl (decide_eq_false g2) ?_
     refine on rfl (decide_eq_false g2) ?_
     refine ov (V_pick_fd rfl g2 rfl) ?_
     refine omv ?_
     refine on rfl rfl ?_
     refine on rfl rfl ?_
     refine on rfl rfl ?_
     refine on rfl rfl ?_
     refine ov (V_pick_f rfl rfl rfl) ?_
     refine omv ?_
     refine on rfl rfl ?_
     refine on rfl rfl ?_
     refine on rfl rfl ?_
     refine ov (V_pick_f rfl rfl rfl) ?_
     refine oas ?_
     refine nq ?_
     refine W.ret ?_
     refine WQ.ret1 Tryz.results72 (.tmp rfl) ?_
     intro w' hp; first | exact ⟨by rw [rB_yes2 ⟨by assumption, ⟨by omega, by omega⟩, by omega⟩], hp.forget⟩ | exact ⟨by rw [rB_no2 (by rintro ⟨h1, h2, h3⟩; first | omega | simp_all)], hp.forget⟩
 · refine on rfl g1 ?_
   refine on rfl g1 ?_
   refine on rfl g1 ?_
   refine ov (V_pick_f rfl g1 rfl) ?_
   refine omv ?_
   refine on rfl rfl ?_
   refine on rfl rfl ?_
   refine on rfl rfl ?_
   refine ov (V_pick_f rfl rfl rfl) ?_
   refine omv ?_
   refine on rfl rfl ?_
   refine on rfl rfl ?_
   refine on rfl rfl ?_
   refine on rfl rfl ?_
   refine ov (V_pick_f rfl rfl rfl) ?_
   refine omv ?_
   refine on rfl rfl ?_
   refine on rfl rfl ?_
   refine on rfl rfl ?_
   refine ov (V_pick_f rfl rfl rfl) ?_
   refine oas ?_
   refine nq ?_
   refine W.ret ?_
   refine WQ.ret1 Tryz.results72 (.tmp rfl) ?_
   intro w' hp; first | exact ⟨by rw [rB_yes2 ⟨by assumption, ⟨by omega, by omega⟩, by omega⟩], hp.forget⟩ | exact ⟨by rw [rB_no2 (by rintro ⟨h1, h2, h3⟩; first | omega | simp_all)], hp.forget⟩

theorem rrepbytes_calls (r : RepS) (hok : RepOK r) (w : World) (hT : SrW w 1 r.ta r.tn (iv .u8 r.tl)) :
    Calls Tryz.prog 35 [AG r.V].toArray w fun e w' => ∃ o : Gr, GrOK o (rN r) ∧ e = .returned (.tuple #[.slice (gA o) (rN r) (gC o), .int .i64 (if rB r then 0 else 1)]) ∧ HP w w' [] (gL o (rN r) (iv .u8 (rF r)) 5) := by
 obtain ⟨ho, hob, hc, hcb, ht, htb, htl, htc⟩ := id hok
 have hlt := SrW.ilen hT
 unfold RepS.V
 refine calls_of_W Tryz.func35 rfl Tryz.ntmps35 rfl rfl (HP.refl w []) ?_
 refine sr ?_
 refine obxa (fun b1 => ?_)
 refine oas ?_
 refine oas ?_
 refine nq ?_
 refine W.seq ?_
 refine sr ?_
 refine ov (vlda 103) ?_
 refine cp rfl (fun w hp => rrepright_calls r hok w) ?_
 refine ov vnot ?_
 refine nq ?_
 refine W.cond rfl (fun g1 => ?_) (fun g1 => ?_)
 · refine W.seq ?_
   refine W.region ?_
   refine oas ?_
   refine oas ?_
   refine nq ?_
   refine W.ret ?_
   refine WQ.then_ret ?_
   refine WQ.ret2 Tryz.results35 (.tmp rfl) (.tmp rfl) ?_
   intro w' hp; have hrr : rB r = false := by simpa using g1
   rw [rN_f hrr, hrr]; exact ⟨none, rfl, rfl, hp.cov cov⟩
 · refine W.skip ?_
   refine WQ.then ?_
   refine W.seq ?_
   have hrr : rB r = true := by simpa using g1
   have hb := rB_bd hrr
   have hRl := repL_len hrr hok hlt
   have hbl := bF_len hc ht
   have hbb := bF_bytes hcb htb
   have hbn := bN_t hb.1
   refine W.region ?_
   refine ov (vfa0 35 68) ?_
   refine ov (vlda 68) ?_
   refine cgG rfl (fun w hp => rsbytes_calls r.st hc hcb ht htb w) (fun o12 h12 => ?_)
   refine omv ?_
   refine ov vex ?_
   refine ov vex ?_
   have hq12 := h12.cap
   refine oas ?_
   refine oas ?_
   refine nq ?_
   refine W.seq ?_
   apply W.j6
   · intro hJ
     refine dr (.q 0 (.q 1 (.q 2 (.q 4 (.q 5 (.q 6 (.q 8 (.q 9 (.q 10 (.q 11 (.q 12 (.l2 3 (.l 7 (.l 13 (.l 14 (.q 15 (.q 16 (.done)))))) 7 (.l 3 (.l 13 (.l 14 (.q 15 (.q 16 (.done)))))))))))))))))) [(b1, _)] ?_
     refine dq rfl (vfa0 0 1) ?_
     refine dq rfl vld ?_
     first | refine dq rfl (vcvN .u64) ?_ | refine dq rfl (vcv .u64) ?_
     refine dq rfl (vfa0 1 1) ?_
     refine dq rfl vld ?_
     first | refine dq rfl (vcvN .u8) ?_ | refine dq rfl (vcv .u8) ?_
     refine dq rfl (vfa0 2 1) ?_
     refine dq rfl vld ?_
     refine dq rfl (vfa0 3 32) ?_
     refine dq rfl (vslF 1 32) ?_
     refine dq rfl (V_move rfl) ?_
     refine WD.l2 ?_ ?_
     · refine dcgG rfl rfl (fun w hp => rhigh_calls _ 4 w sc sc) (fun o18 h18 => ?_)
       refine WD.l ?_
       refine dbsI (k := .u8) rfl 5 1 [_] (fun b22 => ?_)
       refine WD.l ?_
       refine dbs rfl 35 24 (fun b28 => ?_)
       refine WD.l ?_
       refine dcgG rfl rfl (fun w hp => rjoin_calls _ _ _ [highF r.id 4, [r.who], r.tl, r.op, bF r.st] w rw5 (by show (repL r).length ≤ 4000000; omega)) (fun o29 h29 => ?_)
       refine dq rfl (V_assign rfl) ?_
       refine dq rfl (V_assign rfl) ?_
       refine WD.done ?_
       exact WQ.pick (S' := [(0, _), (1, _), (2, _), (3, _), (8, _)]) [0, 1, 2, 3, 8] rfl (hJ o18 h18 b22 b28 o29 h29)
     · refine dbsI (k := .u8) rfl 5 1 [_] (fun b22 => ?_)
       refine WD.l ?_
       refine dcgG rfl rfl (fun w hp => rhigh_calls _ 4 w sc sc) (fun o18 h18 => ?_)
       refine WD.l ?_
       refine dbs rfl 35 24 (fun b28 => ?_)
       refine WD.l ?_
       refine dcgG rfl rfl (fun w hp => rjoin_calls _ _ _ [highF r.id 4, [r.who], r.tl, r.op, bF r.st] w rw5 (by show (repL r).length ≤ 4000000; omega)) (fun o29 h29 => ?_)
       refine dq rfl (V_assign rfl) ?_
       refine dq rfl (V_assign rfl) ?_
       refine WD.done ?_
       exact WQ.pick (S' := [(0, _), (1, _), (2, _), (3, _), (8, _)]) [0, 1, 2, 3, 8] rfl (hJ o18 h18 b22 b28 o29 h29)
   intro o18 h18 b22 b28 o29 h29
   refine WQ.then ?_
   refine W.ret ?_
   refine WQ.ret2 Tryz.results35 (.tmp rfl) (.tmp rfl) ?_
   intro w' hp; rw [rN_t hrr, hrr, rF_t hrr]; exact ⟨o29, h29, rfl, hp.cov cov⟩

end Go.Proofs.YtmeckbjinmgbbaaGreat
/- Reports: the document's answer, on. -/
namespace Go.Proofs.YtmeckbjinmgbbaaGreat
open Go.X
theorem rows3_bytes {fr to : Int} {tl : List Int} (h : 0 ≤ fr ∧ fr < 8) (h2 : 0 ≤ to ∧ to < 8) (hb : bytes tl) : ∀ l ∈ [[fr], [to], tl], bytes l := by
  intro l hl
  simp only [List.mem_cons, List.not_mem_nil, or_false] at hl
  rcases hl with rfl | rfl | rfl
  · intro c hc; rw [List.mem_singleton.1 hc]; omega
  · intro c hc; rw [List.mem_singleton.1 hc]; omega
  · exact hb
def madeEnv (op : List Int) (fr to : Int) (tl : List Int) : EnvS := ⟨fr, to, macF op (joinF [[fr], [to], tl]), List.replicate 32 0, 0, 0, .slice none 0 0⟩
def madeR (root op : List Int) (id fr to now : Int) (A : Option Addr) (n cap : Nat) (tl : List Int) : RepS := ⟨id, to, A, n, cap, tl, op, stampF root 5 (madeEnv op fr to tl) now⟩

theorem made17_calls (rl op : List Int) (id fr to now : Int) (hl : rl.length = 32) (hrb : bytes rl) (ho : op.length = 32) (hob : bytes op) (hfr : 0 ≤ fr ∧ fr < 8) (hto : 0 ≤ to ∧ to < 8) (A : Option Addr) (n cap : Nat) (tl : List Int) (w : World) (hT : SrW w 1 A n (iv .u8 tl)) (htl : bytes tl) (hnc : n ≤ cap) (hn : n ≤ 1000) :
    Calls Tryz.prog 36 [AG [(32, iv .u8 rl)], AG [(32, iv .u8 op)], .int .i64 id, .int .i64 fr, .int .i64 to, .int .i64 now, .slice A n cap].toArray w fun e w' => e = .returned (AG (madeR rl op id fr to now A n cap tl).V) ∧ HP w w' [] [] := by
 have hlt := SrW.ilen hT
 have hmc : ∀ t n, (stampF rl t (madeEnv op fr to tl) n).commit.length = 32 := fun _ _ => stampF_clen (by simp [madeEnv])
 refine calls_of_W Tryz.func36 rfl Tryz.ntmps36 rfl rfl (HP.refl w []) ?_
 refine sr ?_
 refine obxa (fun b7 => ?_)
 refine obxa (fun b8 => ?_)
 refine oal [(1, [.int .i64 0]), (1, [.int .i64 0]), (1, [.slice none 0 0]), (32, List.replicate 32 (.int .u8 0)), (1, [.int .i64 0]), (1, [.int .i64 0]), (1, [.int .i64 0]), (1, [.int .i64 0]), (32, List.replicate 32 (.int .u8 0)), (32, List.replicate 32 (.int .u8 0))] (fun b14 => ?_)
 refine nx ?_
 refine ov (vlda 32) ?_
 refine omv ?_
 first | refine ov (vcvN .u8) ?_ | refine ov (vcv .u8) ?_
 refine obsI (k := .u8) 5 1 [_] (fun b21 => ?_)
 refine omv ?_
 first | refine ov (vcvN .u8) ?_ | refine ov (vcv .u8) ?_
 refine obsI (k := .u8) 5 1 [_] (fun b24 => ?_)
 refine omv ?_
 refine obs 35 24 (fun b26 => ?_)
 refine cp rfl (fun w hp => rmake_calls op ho hob _ _ _ [[fr], [to], tl] w rw3 (rows3_bytes hfr hto htl) (by simp [joinF]; omega)) ?_
 refine oal [(32, List.replicate 32 (.int .u8 0))] (fun b15 => ?_)
 refine osta 32 ?_
 refine nx ?_
 refine ov (vlda 32) ?_
 refine omv ?_
 refine omv ?_
 refine ov (vlda 32) ?_
 refine ov (V_build (by kernel_rfl) (zi (zs := [(1, [.int .i64 0]), (1, [.int .i64 0]), (32, List.replicate 32 (.int .u8 0)), (32, List.replicate 32 (.int .u8 0)), (1, [.int .i64 0]), (1, [.int .i64 0]), (1, [.slice none 0 0])])) (.one (k := 0) rfl rfl (by kernel_rfl) rfl (.one (k := 1) rfl rfl (by kernel_rfl) rfl (.agg (k := 2) (n := 32) rfl fit fln (by kernel_rfl) rfl (.nil _))))) ?_
 refine omv ?_
 refine cp rfl (fun w hp => rstamp_calls rl 5 (madeEnv op fr to tl) now hl hrb (by omega) (by simp [madeEnv]) (by simp [madeEnv]) (by simp [madeEnv]) w) ?_
 unfold stV
 refine omv ?_
 refine ov vex ?_
 refine ov vex ?_
 refine oal [(1, [.int .i64 0]), (1, [.int .i64 0]), (1, [.int .i64 0]), (1, [.int .i64 0]), (32, List.replicate 32 (.int .u8 0)), (32, List.replicate 32 (.int .u8 0))] (fun b16 => ?_)
 refine osta 68 ?_
 refine oas ?_
 refine nx ?_
 refine omv ?_
 refine omv ?_
 refine omv ?_
 refine ov (vlda 32) ?_
 refine ov (vlda 68) ?_
 refine ov (V_build (by kernel_rfl) (zi (zs := [(1, [.int .i64 0]), (1, [.int .i64 0]), (1, [.slice none 0 0]), (32, List.replicate 32 (.int .u8 0)), (1, [.int .i64 0]), (1, [.int .i64 0]), (1, [.int .i64 0]), (1, [.int .i64 0]), (32, List.replicate 32 (.int .u8 0)), (32, List.replicate 32 (.int .u8 0))])) (.one (k := 0) rfl rfl (by kernel_rfl) rfl (.one (k := 1) rfl rfl (by kernel_rfl) rfl (.one (k := 2) rfl rfl (by kernel_rfl) rfl (.agg (k := 3) (n := 32) rfl fit fln (by kernel_rfl) rfl (.agg (k := 35) (n := 68) rfl fit fln (by kernel_rfl) rfl (.nil _))))))) ?_
 refine osta 103 ?_
 refine nq ?_
 refine W.ret ?_
 refine WQ.ret1 Tryz.results36 (.cellA 103 (by kernel_rfl) rfl at_ (by rfl)) ?_
 intro w' hp; exact ⟨by first | rfl | (simp; done) | (simp [*]; done) | simp_all, hp.forget⟩

end Go.Proofs.YtmeckbjinmgbbaaGreat