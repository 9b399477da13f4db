/- report.Read. -/
import Derived.Test.YtbalnjejamigaaaRead2
set_option linter.unusedVariables false
set_option linter.unusedSimpArgs false

namespace Go.Proofs.Ytbalnjejamigaaa
open Go.X
theorem zeroR_V : zeroR.V = zeroRep := by simp only [zeroR, RepS.V, StampS.zero, zeroRep, iv_rep]
theorem list5 {α : Type} {l : List α} (h : l.length = 5) : ∃ a b c d e, l = [a, b, c, d, e] := by
  match l, h with
  | [a, b, c, d, e], _ => exact ⟨_, _, _, _, _, rfl⟩
set_option maxRecDepth 4000 in
theorem repread_calls (A : Option Addr) (n cap : Nat) (l : List Int) (w : World) (hs : SrW w 1 A n (iv .u8 l)) (hb : bytes l) (hn : n ≤ cap) (hn2 : n ≤ 1000000) :
    Calls Try.prog 47 [.slice A n cap].toArray w fun e w' => ∃ o : Gr, GrOK o (repTx l).length ∧ e = .returned (.tuple #[AG (repRd o l).V, .int .i64 (repE l)]) ∧ HP w w' [] (gL o (repTx l).length (iv .u8 (repTx l)) 5) := by
 have hl := SrW.ilen hs
 refine calls_of_WD Try.func47 rfl Try.ntmps47 rfl rfl (HP.refl w []) ?_
 refine sr ?_
 refine oal [(1, [.int .i64 0]), (1, [.int .i64 0]), (1, [.slice none 0 0]), (32, List.replicate 32 (.int .u8 0)), (1, [.int .i64 0]), (1, [.int .i64 0]), (1, [.int .i64 0]), (1, [.int .i64 0]), (32, List.replicate 32 (.int .u8 0)), (32, List.replicate 32 (.int .u8 0))] (fun b2 => ?_)
 refine oal [(1, [.int .i64 0])] (fun b3 => ?_)
 refine nx ?_
 refine omv ?_
 refine cgR rfl (fun w hp => part_calls _ _ _ l w sw hb sc (by omega)) (fun o7 h7 => ?_)
 refine omv ?_
 refine ov vex ?_
 refine ov vex ?_
 refine oas ?_
 refine ost ?_
 refine nq ?_
 refine W.seq ?_
 refine sr ?_
 refine ov vld ?_
 refine ov (v2 V_neq) ?_
 refine nq ?_
 refine W.cond_dec rfl (fun g1 => ?_) (fun g1 => ?_)
 · refine W.quiet ?_
   refine W.seq ?_
   apply W.join
   · intro hJ
     refine dr (.l2 0 (.l2 1 (.l 2 (.l 3 (.done))) 2 (.l 1 (.l 3 (.done)))) 1 (.l 0 (.l 2 (.l 3 (.done))))) [] ?_
     refine WD.l2 ?_ ?_
     · refine dv rfl (vlda 103) ?_
       refine WD.l2 ?_ ?_
       · refine dv rfl vld ?_
         refine WD.l ?_
         refine dsta rfl 103 ?_
         refine WD.l ?_
         refine dst rfl ?_
         refine WD.done ?_
         exact WQ.pick (S' := [(0, _), (2, _), (3, _), (4, _), (11, _)]) [0, 2, 3, 4, 11] rfl hJ
       · refine dsta rfl 103 ?_
         refine WD.l ?_
         refine dv rfl vld ?_
         refine WD.l ?_
         refine dst rfl ?_
         refine WD.done ?_
         exact WQ.pick (S' := [(0, _), (2, _), (3, _), (4, _), (11, _)]) [0, 2, 3, 4, 11] rfl hJ
     · refine dv rfl vld ?_
       refine WD.l ?_
       refine dv rfl (vlda 103) ?_
       refine WD.l ?_
       refine dsta rfl 103 ?_
       refine WD.l ?_
       refine dst rfl ?_
       refine WD.done ?_
       exact WQ.pick (S' := [(0, _), (2, _), (3, _), (4, _), (11, _)]) [0, 2, 3, 4, 11] rfl hJ
   refine WQ.then ?_
   refine W.ret ?_
   refine WQ.quiet_ret ?_
   refine WQ.then_ret ?_
   refine WQ.retD2 Try.results47 (.cellA 103 (by kernel_rfl) rfl at_ (by rfl)) (.cell (by kernel_rfl) rfl at_ (by rfl)) ?_
   intro w' hp
   obtain ⟨e1, e2, e3⟩ := partE_ne g1
   have e4 : partE l = 3 := by unfold partE at g1 ⊢; split at g1 <;> simp_all
   refine ⟨none, by rw [e2]; rfl, ?_, by rw [e2]; exact hp.forget⟩
   rw [e1, e3, zeroR_V, e4]; rfl
 · refine W.skip ?_
   refine WQ.then ?_
   refine sr ?_
   refine ov V_makeFunc ?_
   refine odefer ?_
   refine WFL.nil ?_
   refine WFQ.then ?_
   refine WF.seq ?_
   refine WF.region ?_
   refine fmv ?_
   have hE : partE l = 0 := by simpa using g1
   obtain ⟨hok, hll⟩ := h7
   have hsz := rows_le (partE_eq hE)
   have hrl : o7.rs.length = (partR l).length := by rw [← hll]; simp [GR.ll]
   by_cases hk : okRows (partR l) = true
   · have h5 : (partR l).length = 5 := by simp [okRows] at hk; omega
     obtain ⟨og, rs⟩ := o7
     obtain ⟨r0, r1, r2, r3, r4, rfl⟩ := list5 (l := rs) (by simpa using hrl.trans h5)
     have hpr : partR l = [r0.l, r1.l, r2.l, r3.l, r4.l] := hll.symm
     have hk0 := hk
     rw [hpr] at hk
     simp only [okRows, List.getD_cons_zero, List.getD_cons_succ, Bool.and_eq_true, decide_eq_true_eq] at hk
     obtain ⟨⟨⟨⟨⟨-, k0⟩, k1⟩, k3⟩, k4⟩, kr⟩ := hk
     have hn2' : r2.l.length = r2.n := (hok.2 r2 (by simp)).1
     have hm4 : r4.l.length ≤ 1000000 := by have := hsz.2 r4.l (by rw [hpr]; simp); omega
     refine fcp rfl (fun w hp => of_ok r0.l r1.l r2.l r3.l r4.l _ _ _ w _ (GR.two hp dell hok).1 (GR.two hp dell hok).2 hm4 (some ⟨r2.b, 0, none⟩) r2.cap (by rw [hn2']; rfl) ⟨k0, k1, k3⟩ k4 kr) ?_
     unfold repR RepS.V
     refine fsta 103 ?_
     refine fstt ?_
     refine WFL.nil ?_
     refine WFQ.then ?_
     refine WF.ret ?_
     refine WFQ.retD2 (by kernel_rfl) (fun w hp => rec_no b2 b3 w) Try.results47 (.cellA 103 (by kernel_rfl) rfl at_ (by rfl)) (.cell (by kernel_rfl) rfl at_ (by rfl)) ?_
     intro w' hp
     have e0 := repE_ok hE hk0
     have tx : repTx l = r2.l := by unfold repTx; rw [if_pos e0, hpr]; rfl
     have rd : ∀ o, repRd o l = repR (gA o) (gC o) r0.l r1.l r2.l r3.l r4.l := fun o => by unfold repRd; rw [if_pos e0, hpr]; rfl
     refine ⟨some (r2.b, r2.cap, r2.rs), by rw [tx, hn2']; exact (hok.2 r2 (by simp)).2.1, ?_, ?_⟩
     · rw [e0, rd]; rfl
     · rw [tx, hn2']
       refine hp.sub (List.singleton_sublist.2 ?_)
       simp [gRL, RowB.blk]
   · have hk : okRows (partR l) = false := by simpa using hk
     refine WFL.pan rfl (fun w hp => of_all _ _ _ (partR l) w (hll ▸ GR.rows hp dell hok (by omega)) (fun x hx => by have := hsz.2 x hx; omega) hk) ?_
     refine WFQ.then_panic ?_
     refine WFQ.panD2 (p := { v := .iface 26 (.int .i64 2), recovered := true }) rfl dels (by kernel_rfl) (fun w hp => rec_yes b2 b3 w (hh hp) (hE ▸ hh hp) (ne_of2 hp (by exact subl)).symm) Try.results47 (.cellA 103 (by kernel_rfl) rfl at_ (by rfl)) (.cell (by kernel_rfl) rfl at_ (by rfl)) ?_
     intro w' hp
     obtain ⟨e1, e2, e3⟩ := repE_no hE hk
     refine ⟨none, by rw [e2]; rfl, ?_, by rw [e2]; exact hp.forget⟩
     rw [e1, e3, zeroR_V]; rfl

end Go.Proofs.Ytbalnjejamigaaa