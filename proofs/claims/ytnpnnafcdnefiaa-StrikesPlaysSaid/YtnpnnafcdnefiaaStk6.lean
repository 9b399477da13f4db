/- Layer 23: a strike counts once. -/
import Derived.Test.YtnpnnafcdnefiaaStk5
set_option linter.unusedVariables false
set_option linter.unusedSimpArgs false

namespace Go.Proofs.Ytnpnnafcdnefiaa
open Go.X
def S1w : LS := LS.put ⟨[], 0⟩ 7 ⟨2, 0, false⟩

theorem sopen23_nil (w : World) : Calls Try.prog 57 [.pointer none].toArray w fun e w' => e = .returned (.tuple #[.pointer none, .int .i64 1]) ∧ HP w w' [] [] := by
 refine calls_of_WM Try.func57 rfl Try.ntmps57 rfl rfl (HP.refl w []) ?_
 refine sr ?_
 refine oas ?_
 refine oas ?_
 refine nq ?_
 refine W.seq ?_
 refine sr ?_
 refine omv ?_
 refine ov (V_eqlP (by kernel_rfl) rfl rfl) ?_
 refine nq ?_
 refine W.cond_true rfl rfl ?_
 refine sr ?_
 refine oas ?_
 refine oas ?_
 refine nq ?_
 refine W.ret ?_
 refine WQ.then_ret ?_
 refine WQ.leaveE2 Try.results57 (.tmp rfl) (.tmp rfl) ?_
 intro w' hp; exact ⟨by first | rfl | (simp; done) | (simp [*]; done) | simp_all, hp.forget⟩

theorem awake23_calls (w : World) : Calls Try.prog 21 ([] : List Value).toArray w fun e w' => e = .returned (.bool true) ∧ HP w w' [] [] := by
 have k0 := newD_ok (n := 8) (by omega) (by omega)
 refine calls_of_W Try.func21 rfl Try.ntmps21 rfl rfl (HP.refl w []) ?_
 refine sr ?_
 refine oas ?_
 refine nx ?_
 refine cg rfl (fun w hp => new21_calls 8 (by omega) (by omega) w) (fun b10 h10 => ?_)
 refine omv ?_
 refine ov vex ?_
 refine ov vex ?_
 refine oas ?_
 refine oas ?_
 refine nx ?_
 refine omv ?_
 refine cgP _ rfl (fun w hp => begun23_calls b10 (newD 8) k0 w (HP.here hp cov)) (fun r15 h15 => ?_)
 simp only [List.cons_append, List.nil_append, List.append_nil, List.append_assoc]
 refine WL.back (gRL 5 31 r15.2.2.2) ?_
 simp only [List.cons_append, List.nil_append, List.append_nil, List.append_assoc]
 refine omv ?_
 refine ov vex ?_
 refine ov vex ?_
 refine oas ?_
 refine oas ?_
 refine nq ?_
 refine W.seq ?_
 refine W.seq ?_
 obtain ⟨hv0, hS0, hn0⟩ := LV.new (n := 8) (by omega) (by omega) h15.1 h15.2
 rw [hS0] at hv0 ⊢
 refine W.region ?_
 refine omv ?_
 refine ov (V_eqlP (by kernel_rfl) rfl rfl) ?_
 refine nq ?_
 refine W.cond_false rfl rfl ?_
 refine W.skip ?_
 refine WQ.then ?_
 refine sr ?_
 refine omv ?_
 refine cgP _ rfl (fun w hp => add23_calls b10 (newD 8) k0 r15.1 r15.2.2.2 h15.1 hv0.gn r15.2.1 r15.2.2.1 ⟨[], 0⟩ .nil 2 7 0 w (HP.here hp cov)) (fun r21 h21 => ?_)
 simp only [List.cons_append, List.nil_append, List.append_nil, List.append_assoc]
 refine WL.back (gRL 5 31 r21) ?_
 simp only [List.cons_append, List.nil_append, List.append_nil, List.append_assoc]
 refine oas ?_
 refine nq ?_
 refine W.seq ?_
 obtain ⟨e1, e2, hv1, hn1⟩ := hv0.add ⟨by omega, by omega⟩ ⟨by omega, by omega⟩ ⟨by omega, by omega⟩ rfl (by omega) (by decide) h21
 rw [e1, e2]
 rw [show LS.put ⟨[], 0⟩ 7 ⟨2, 0, false⟩ = S1w from rfl] at hv1 ⊢
 generalize goD (newD 8) r15.2.2.2.rs.length (adQ ⟨[], 0⟩ 2 7 0) = D1 at hv1 ⊢
 refine W.region ?_
 refine omv ?_
 refine cgP _ rfl (fun w hp => add23_calls b10 D1 hv1.ok r15.1 r21 hv1.gok hv1.gn r15.2.1 r15.2.2.1 S1w hv1.ls 2 7 0 w (HP.here hp cov)) (fun r23 h23 => ?_)
 simp only [List.cons_append, List.nil_append, List.append_nil, List.append_assoc]
 refine WL.back (gRL 5 31 r23) ?_
 simp only [List.cons_append, List.nil_append, List.append_nil, List.append_assoc]
 refine oas ?_
 refine nq ?_
 refine W.seq ?_
 obtain ⟨e3, e4, hv2, hn2⟩ := hv1.twice (s := ⟨2, 0, false⟩) ⟨by omega, by omega⟩ ⟨by omega, by omega⟩ rfl h23
 rw [e3, e4]
 generalize goD D1 r21.rs.length (adQ S1w 2 7 0) = D2 at hv2 ⊢
 refine W.region ?_
 refine cp rfl (fun w hp => sopen23_nil w) ?_
 refine omv ?_
 refine ov vex ?_
 refine ov vex ?_
 refine oas ?_
 refine oas ?_
 refine nx ?_
 refine omv ?_
 refine ov (v2 V_eql) ?_
 refine omv ?_
 refine oy rfl (by decide) ?_
 refine omv ?_
 refine oy rfl (by decide) ?_
 refine ov (v2 V_eql) ?_
 refine ov (V_pick_t rfl (by decide) rfl) ?_
 refine omv ?_
 refine oy rfl (by decide) ?_
 refine omv ?_
 refine oy rfl (by decide) ?_
 refine cms rfl (fun w hp => count23_calls r15.2.1 r15.2.2.1 r15.1 S1w hv2.ls hv2.sm 2 100 (by omega) w (HP.here hp cov)) ?_
 refine oy rfl (by decide) ?_
 refine ov (v2 V_eql) ?_
 refine ov (V_pick_t rfl (by decide) rfl) ?_
 refine omv ?_
 refine oy rfl (by decide) ?_
 refine omv ?_
 refine oy rfl (by decide) ?_
 refine cms rfl (fun w hp => count23_calls r15.2.1 r15.2.2.1 r15.1 S1w hv2.ls hv2.sm 2 101 (by omega) w (HP.here hp cov)) ?_
 refine oy rfl (by decide) ?_
 refine ov (v2 V_eql) ?_
 refine ov (V_pick_t rfl (by decide) rfl) ?_
 refine omv ?_
 refine oy rfl (by decide) ?_
 refine omv ?_
 refine oy rfl (by decide) ?_
 refine ov (v2 V_eql) ?_
 refine ov (V_pick_t rfl (by decide) rfl) ?_
 refine oas ?_
 refine nq ?_
 refine W.ret ?_
 refine WQ.ret1 Try.results21 (.tmp rfl) ?_
 intro w' hp; exact ⟨rfl, hp.forget⟩

end Go.Proofs.Ytnpnnafcdnefiaa