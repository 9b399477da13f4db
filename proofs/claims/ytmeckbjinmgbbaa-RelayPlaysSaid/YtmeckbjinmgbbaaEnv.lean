/- Envelopes, as bytes. -/
import Derived.Test.YtmeckbjinmgbbaaHead
set_option linter.unusedVariables false
set_option linter.unusedSimpArgs false

namespace Go.Proofs.Ytmeckbjinmgbbaa
open Go.X

theorem henv_calls (e : EnvS) (A : Option Addr) (n cap : Nat) (l : List Int) (he : EnOK e A n cap l) (hh : heB e n = true) (w : World) (hs : SrW w 1 A n (iv .u8 l)) :
    Calls Try.prog 38 [AG (enV e)].toArray w fun e' w' => ∃ o : Gr, GrOK o (76 + n) ∧ e' = .returned (.tuple #[.slice (gA o) (76 + n) (gC o), .int .i64 0]) ∧ HP w w' [] (gL o (76 + n) (iv .u8 (enL e l)) 5) := by
 have he0 := he
 obtain ⟨hbd, hec, hecb, hep, hepb, hlb, hnl, hcp, hbig⟩ := he
 subst hnl
 unfold enV
 obtain ⟨hb1, hb2, hb3, hb4, hb5⟩ := heB_of hh
 have hdd : hdB e.prev e.n = true := by simp only [hdB, timeB, Bool.and_eq_true, decide_eq_true_eq]; exact ⟨hb3, hb4⟩
 refine calls_of_W Try.func38 rfl Try.ntmps38 rfl rfl (HP.refl w []) ?_
 refine sr ?_
 refine obxa (fun b1 => ?_)
 refine oas ?_
 refine oas ?_
 refine nq ?_
 refine W.seq ?_
 refine sr ?_
 refine ov (vldW 69 (hl := by simp [flat, iv_len, hec, hep])) ?_
 refine cp rfl (fun w hp => hren_calls e A l.length cap l he0 w) ?_
 refine ov vnot ?_
 refine nq ?_
 refine W.cond_false rfl (by rw [hh]; rfl) ?_
 refine W.skip ?_
 refine WQ.then ?_
 refine W.seq ?_
 refine dr (.q 0 (.q 1 (.q 2 (.q 3 (.q 4 (.q 5 (.q 7 (.q 8 (.l 6 (.l 9 (.q 10 (.done)))))))))))) [(b1, _)] ?_
 refine dq rfl (vfa0 0 1) ?_
 refine dq rfl vld ?_
 first | refine dq rfl (vcvN .u8) ?_ | refine dq rfl (vcv .u8) ?_
 refine dq rfl (vfa0 1 1) ?_
 refine dq rfl vld ?_
 first | refine dq rfl (vcvN .u8) ?_ | refine dq rfl (vcv .u8) ?_
 refine dq rfl (vfa0 2 32) ?_
 refine dq rfl (vslF 1 32) ?_
 refine WD.l ?_
 refine dbsI (k := .u8) rfl 5 1 [_, _] (fun b16 => ?_)
 refine WD.l ?_
 refine dap rfl 5 1 (fun b19 c19 r19 h19 => ?_)
 refine dq rfl (V_assign rfl) ?_
 refine WD.done ?_
 refine WQ.then ?_
 refine sr ?_
 refine ov (vfa0 34 34) ?_
 refine ov (vlda 34) ?_
 refine cgG rfl (fun w hp => hbytes_calls e.pub e.prev e.n hep hepb hdd w) (fun o23 h23 => ?_)
 refine omv ?_
 refine ov vex ?_
 refine ov vex ?_
 refine oas ?_
 refine oas ?_
 refine nx ?_
 refine omv ?_
 refine omv ?_
 refine oap 5 1 (fun b28 c28 r28 h28 => ?_)
 refine oas ?_
 refine nq ?_
 refine W.seq ?_
 rw [hbd]
 refine W.region ?_
 refine omv ?_
 refine ov (vfa0 68 1) ?_
 refine ov vld ?_
 refine ov vlenS ?_
 first | refine ov (vcvN .u64) ?_ | refine ov (vcv .u64) ?_
 refine cg rfl (fun w hp => high_calls _ 2 w sc) (fun b34 h34 => ?_)
 refine oap 5 1 (fun b35 c35 r35 h35 => ?_)
 refine oas ?_
 refine nx ?_
 refine omv ?_
 refine ov (vfa0 68 1) ?_
 refine ov vld ?_
 refine oap 5 1 (fun b39 c39 r39 h39 => ?_)
 refine oas ?_
 refine oas ?_
 refine nq ?_
 refine W.ret ?_
 refine WQ.ret2 Try.results38 (.tmp rfl) (.tmp rfl) ?_
 intro w' hp; rw [show 2 + 32 + 40 + 2 + l.length = 76 + l.length from by omega] at hp h39 ⊢; exact ⟨some (b39, c39, r39), h39, rfl, hp.cov cov⟩

theorem henv_calls_bad (e : EnvS) (A : Option Addr) (n cap : Nat) (l : List Int) (he : EnOK e A n cap l) (hh : ¬ heB e n = true) (w : World) :
    Calls Try.prog 38 [AG (enV e)].toArray w fun e' w' => e' = .returned (.tuple #[.slice none 0 0, .int .i64 1]) ∧ HP w w' [] [] := by
 have he0 := he
 obtain ⟨hbd, hec, hecb, hep, hepb, hlb, hnl, hcp, hbig⟩ := he
 subst hnl
 unfold enV
 refine calls_of_W Try.func38 rfl Try.ntmps38 rfl rfl (HP.refl w []) ?_
 refine sr ?_
 refine obxa (fun b1 => ?_)
 refine oas ?_
 refine oas ?_
 refine nq ?_
 refine W.seq ?_
 refine sr ?_
 refine ov (vldW 69 (hl := by simp [flat, iv_len, hec, hep])) ?_
 refine cp rfl (fun w hp => hren_calls e A l.length cap l he0 w) ?_
 refine ov vnot ?_
 refine nq ?_
 refine W.cond_true rfl (by simp [hh]) ?_
 refine sr ?_
 refine oas ?_
 refine oas ?_
 refine nq ?_
 refine W.ret ?_
 refine WQ.then_ret ?_
 refine WQ.ret2 Try.results38 (.tmp rfl) (.tmp rfl) ?_
 intro w' hp; exact ⟨by first | rfl | (simp; done) | (simp [*]; done) | simp_all, hp.forget⟩

theorem rhenv_calls (e : EnvS) (A : Option Addr) (n cap : Nat) (l : List Int) (he : EnOK e A n cap l) (hh : heB e n = true) (w : World) (hs : SrW w 1 A n (iv .u8 l)) :
    Calls Try.prog 91 [AG (enV e)].toArray w fun e' w' => ∃ o : Gr, GrOK o (76 + n) ∧ e' = .returned (.tuple #[.slice (gA o) (76 + n) (gC o), .int .i64 0]) ∧ HP w w' [] (gL o (76 + n) (iv .u8 (enL e l)) 5) := by
 have he0 := he
 obtain ⟨hbd, hec, hecb, hep, hepb, hlb, hnl, hcp, hbig⟩ := he
 subst hnl
 unfold enV
 obtain ⟨hb1, hb2, hb3, hb4, hb5⟩ := heB_of hh
 have hdd : hdB e.prev e.n = true := by simp only [hdB, timeB, Bool.and_eq_true, decide_eq_true_eq]; exact ⟨hb3, hb4⟩
 refine calls_of_W Try.func91 rfl Try.ntmps91 rfl rfl (HP.refl w []) ?_
 refine sr ?_
 refine obxa (fun b1 => ?_)
 refine oas ?_
 refine oas ?_
 refine nq ?_
 refine W.seq ?_
 refine sr ?_
 refine ov (vldW 69 (hl := by simp [flat, iv_len, hec, hep])) ?_
 refine cp rfl (fun w hp => rhren_calls e A l.length cap l he0 w) ?_
 refine ov vnot ?_
 refine nq ?_
 refine W.cond_false rfl (by rw [hh]; rfl) ?_
 refine W.skip ?_
 refine WQ.then ?_
 refine W.seq ?_
 refine dr (.q 0 (.q 1 (.q 2 (.q 3 (.q 4 (.q 5 (.q 7 (.q 8 (.l 6 (.l 9 (.q 10 (.done)))))))))))) [(b1, _)] ?_
 refine dq rfl (vfa0 0 1) ?_
 refine dq rfl vld ?_
 first | refine dq rfl (vcvN .u8) ?_ | refine dq rfl (vcv .u8) ?_
 refine dq rfl (vfa0 1 1) ?_
 refine dq rfl vld ?_
 first | refine dq rfl (vcvN .u8) ?_ | refine dq rfl (vcv .u8) ?_
 refine dq rfl (vfa0 2 32) ?_
 refine dq rfl (vslF 1 32) ?_
 refine WD.l ?_
 refine dbsI (k := .u8) rfl 5 1 [_, _] (fun b16 => ?_)
 refine WD.l ?_
 refine dap rfl 5 1 (fun b19 c19 r19 h19 => ?_)
 refine dq rfl (V_assign rfl) ?_
 refine WD.done ?_
 refine WQ.then ?_
 refine sr ?_
 refine ov (vfa0 34 34) ?_
 refine ov (vlda 34) ?_
 refine cgG rfl (fun w hp => rhbytes_calls e.pub e.prev e.n hep hepb hdd w) (fun o23 h23 => ?_)
 refine omv ?_
 refine ov vex ?_
 refine ov vex ?_
 refine oas ?_
 refine oas ?_
 refine nx ?_
 refine omv ?_
 refine omv ?_
 refine oap 5 1 (fun b28 c28 r28 h28 => ?_)
 refine oas ?_
 refine nq ?_
 refine W.seq ?_
 rw [hbd]
 refine W.region ?_
 refine omv ?_
 refine ov (vfa0 68 1) ?_
 refine ov vld ?_
 refine ov vlenS ?_
 first | refine ov (vcvN .u64) ?_ | refine ov (vcv .u64) ?_
 refine cgG rfl (fun w hp => rhigh_calls _ 2 w sc sc) (fun o34 h34 => ?_)
 refine oap 5 1 (fun b35 c35 r35 h35 => ?_)
 refine oas ?_
 refine nx ?_
 refine omv ?_
 refine ov (vfa0 68 1) ?_
 refine ov vld ?_
 refine oap 5 1 (fun b39 c39 r39 h39 => ?_)
 refine oas ?_
 refine oas ?_
 refine nq ?_
 refine W.ret ?_
 refine WQ.ret2 Try.results91 (.tmp rfl) (.tmp rfl) ?_
 intro w' hp; rw [show 2 + 32 + 40 + 2 + l.length = 76 + l.length from by omega] at hp h39 ⊢; exact ⟨some (b39, c39, r39), h39, rfl, hp.cov cov⟩

theorem rhenv_calls_bad (e : EnvS) (A : Option Addr) (n cap : Nat) (l : List Int) (he : EnOK e A n cap l) (hh : ¬ heB e n = true) (w : World) :
    Calls Try.prog 91 [AG (enV e)].toArray w fun e' w' => e' = .returned (.tuple #[.slice none 0 0, .int .i64 1]) ∧ HP w w' [] [] := by
 have he0 := he
 obtain ⟨hbd, hec, hecb, hep, hepb, hlb, hnl, hcp, hbig⟩ := he
 subst hnl
 unfold enV
 refine calls_of_W Try.func91 rfl Try.ntmps91 rfl rfl (HP.refl w []) ?_
 refine sr ?_
 refine obxa (fun b1 => ?_)
 refine oas ?_
 refine oas ?_
 refine nq ?_
 refine W.seq ?_
 refine sr ?_
 refine ov (vldW 69 (hl := by simp [flat, iv_len, hec, hep])) ?_
 refine cp rfl (fun w hp => rhren_calls e A l.length cap l he0 w) ?_
 refine ov vnot ?_
 refine nq ?_
 refine W.cond_true rfl (by simp [hh]) ?_
 refine sr ?_
 refine oas ?_
 refine oas ?_
 refine nq ?_
 refine W.ret ?_
 refine WQ.then_ret ?_
 refine WQ.ret2 Try.results91 (.tmp rfl) (.tmp rfl) ?_
 intro w' hp; exact ⟨by first | rfl | (simp; done) | (simp [*]; done) | simp_all, hp.forget⟩

end Go.Proofs.Ytmeckbjinmgbbaa