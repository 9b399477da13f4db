/- Two envelopes that are the same. -/
import Derived.Test.YtmeckbjinmgbbaaEnv
set_option linter.unusedVariables false
set_option linter.unusedSimpArgs false

namespace Go.Proofs.Ytmeckbjinmgbbaa
open Go.X

theorem same12_calls (e : EnvS) (A : Option Addr) (n cap : Nat) (l : List Int) (he : EnOK e A n cap l) (B : Option Addr) (cap2 : Nat) (w : World) (hs : SrW w 1 A n (iv .u8 l)) (hs2 : SrW w 1 B n (iv .u8 l)) :
    Calls Try.prog 24 [AG (enV e), AG (enV { e with body := .slice B n cap2 })].toArray w fun e' w' => e' = .returned (.bool true) ∧ HP w w' [] [] := by
 obtain ⟨hbd, hec, hecb, hep, hepb, hlb, hnl, hcp, hbig⟩ := he
 subst hnl
 unfold enV
 rw [hbd]
 refine calls_of_W Try.func24 rfl Try.ntmps24 rfl rfl (HP.refl w []) ?_
 refine sr ?_
 refine obxa (fun b2 => ?_)
 refine obxa (fun b3 => ?_)
 refine oas ?_
 refine nx ?_
 refine ov (vfa0 0 1) ?_
 refine ov vld ?_
 refine ov (vfa0 0 1) ?_
 refine ov vld ?_
 refine ov (v2 V_eql) ?_
 refine omv ?_
 refine oy rfl (by simp) ?_
 refine ov (vfa0 1 1) ?_
 refine oy rfl (by simp) ?_
 refine ov vld ?_
 refine oy rfl (by simp) ?_
 refine ov (vfa0 1 1) ?_
 refine oy rfl (by simp) ?_
 refine ov vld ?_
 refine oy rfl (by simp) ?_
 refine ov (v2 V_eql) ?_
 refine ov (V_pick_t rfl (by simp) rfl) ?_
 refine omv ?_
 refine oy rfl (by simp) ?_
 refine ov (vfa0 2 32) ?_
 refine oy rfl (by simp) ?_
 refine ov (vlda 32) ?_
 refine oy rfl (by simp) ?_
 refine ov (vfa0 2 32) ?_
 refine oy rfl (by simp) ?_
 refine ov (vlda 32) ?_
 refine oy rfl (by simp) ?_
 refine ov (veqlI 3 32 .u8) ?_
 refine ov (V_pick_t rfl (by simp) rfl) ?_
 refine omv ?_
 refine oy rfl (by simp) ?_
 refine ov (vfa0 34 34) ?_
 refine oy rfl (by simp) ?_
 refine ov (vlda 34) ?_
 refine oy rfl (by simp) ?_
 refine ov (vfa0 34 34) ?_
 refine oy rfl (by simp) ?_
 refine ov (vlda 34) ?_
 refine oy rfl (by simp) ?_
 refine ov (veqA [(32, 6), (1, 5), (1, 5)]) ?_
 refine ov (V_pick_t rfl (by simp) rfl) ?_
 refine omv ?_
 refine oy rfl (by simp) ?_
 refine ov (vfa0 68 1) ?_
 refine oy rfl (by simp) ?_
 refine ov vld ?_
 refine oy rfl (by simp) ?_
 refine ov vbs ?_
 refine oy rfl (by simp) ?_
 refine ov (vfa0 68 1) ?_
 refine oy rfl (by simp) ?_
 refine ov vld ?_
 refine oy rfl (by simp) ?_
 refine ov vbs ?_
 refine oy rfl (by simp) ?_
 refine ov veqS ?_
 refine ov (V_pick_t rfl (by simp) rfl) ?_
 refine oas ?_
 refine nq ?_
 refine W.ret ?_
 refine WQ.ret1 Try.results24 (.tmp rfl) ?_
 intro w' hp; exact ⟨by first | rfl | (simp; done) | (simp [*]; done) | simp_all, hp.forget⟩

end Go.Proofs.Ytmeckbjinmgbbaa