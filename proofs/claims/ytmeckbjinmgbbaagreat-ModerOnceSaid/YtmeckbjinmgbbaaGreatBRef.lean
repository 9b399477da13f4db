/- The other functions of the buckets: New, Has; the reference's; the first look of the laws. -/
import Derived.Test.YtmeckbjinmgbbaaGreatBucket
set_option linter.unusedVariables false
set_option linter.unusedSimpArgs false

namespace Go.Proofs.YtmeckbjinmgbbaaGreat
open Go.X
def bmayB (most every : Int) : Prop := 1 ≤ most ∧ most ≤ 1000 ∧ 1 ≤ every ∧ every ≤ 1000
theorem bmayB.ok {most every : Int} (h : bmayB most every) : OkB most every 0 most := by
  obtain ⟨h1, h2, h3, h4⟩ := h
  exact ⟨h1, h2, h3, h4, by omega, by omega, by omega, by omega⟩

theorem new_calls (most every : Int) (w : World) (hk : bmayB most every) :
    Calls Tryz.prog 63 [.int .i64 most, .int .i64 every].toArray w fun e w' => ∃ r : Nat, True ∧ e = .returned (.tuple #[.pointer (some ⟨r, 0, none⟩), .int .i64 0]) ∧ HP w w' [] [(r, .cells (bkt most every 0 most) 182)] := by
  obtain ⟨k1, k2, k3, k4⟩ := hk
  refine calls_of_W Tryz.func63 rfl Tryz.ntmps63 rfl rfl (HP.refl w []) ?_
  refine W.seq ?_
  refine W.region ?_
  refine WL.as rfl rfl ?_
  refine WL.as rfl rfl ?_
  refine WL.nil ?_
  refine WQ.then ?_
  refine W.seq ?_
  refine W.seq ?_
  refine W.region ?_
  refine WL.mv rfl rfl ?_
  refine WL.mv rfl rfl ?_
  refine WL.val rfl (V_min rfl) ?_
  refine WL.val rfl (V_lss rfl rfl) ?_
  refine WL.mv rfl rfl ?_
  refine WL.yes rfl (decide_eq_false (by omega)) ?_
  refine WL.mv rfl rfl ?_
  refine WL.yes rfl (decide_eq_false (by omega)) ?_
  refine WL.mv rfl rfl ?_
  refine WL.yes rfl (decide_eq_false (by omega)) ?_
  refine WL.val rfl (V_max rfl) ?_
  refine WL.yes rfl (decide_eq_false (by omega)) ?_
  refine WL.val rfl (V_gtr rfl rfl) ?_
  refine WL.val rfl (V_pick_f rfl (decide_eq_false (by omega)) rfl) ?_
  refine WL.nil ?_
  refine WQ.then ?_
  refine W.cond_false rfl (decide_eq_false (by omega)) ?_
  refine W.skip ?_
  refine WQ.then ?_
  refine W.seq ?_
  refine W.region ?_
  refine WL.mv rfl rfl ?_
  refine WL.mv rfl rfl ?_
  refine WL.val rfl (V_build (by kernel_rfl) (zs := [(1, [.int .i64 0]), (1, [.int .i64 0]), (1, [.int .i64 0]), (1, [.int .i64 0])]) ⟨by kernel_rfl, by repeat (first | exact Fit.nil | refine Fit.mk (by first | rfl | (simp; done) | (simp [iv_len]; done) | simp [iv_len, *]) ?_)⟩ (.one (k := 0) rfl rfl (by kernel_rfl) rfl (.one (k := 1) rfl rfl (by kernel_rfl) rfl (.nil _)))) ?_
  refine WL.new rfl (E_boxA rfl (by repeat (first | exact Fit.nil | refine Fit.mk (by first | rfl | (simp; done) | (simp [iv_len]; done) | simp [iv_len, *]) ?_))) ?_; intro b20
  refine WL.as rfl rfl ?_
  refine WL.nil ?_
  refine WQ.then ?_
  refine W.seq ?_
  refine W.region ?_
  refine WL.mv rfl rfl ?_
  refine WL.val rfl (V_nil rfl) ?_
  refine WL.val rfl (V_fieldAddr 3 1 (by kernel_rfl) rfl) ?_
  refine WL.mv rfl rfl ?_
  refine WL.mod _ rfl (by kernel_rfl) rfl (by repeat (first | exact Upd.here _ _ | apply Upd.there)) (fun w hp => astore_calls b20 3 (bkt most every 0 0) (bkt most every 0 most) 182 _ w (hp.held (b20, .cells (bkt most every 0 0) 182) (by simp [bkt])) rfl) ?_
  refine WL.nil ?_
  refine WQ.then ?_
  refine W.seq ?_
  refine W.region ?_
  refine WL.mv rfl rfl ?_
  refine WL.as rfl rfl ?_
  refine WL.as rfl rfl ?_
  refine WL.nil ?_
  refine WQ.then ?_
  refine W.ret ?_
  refine WQ.ret2 Tryz.results63 (.tmp rfl) (.tmp rfl) ?_
  intro w' hp; exact ⟨b20, trivial, rfl, hp⟩

end Go.Proofs.YtmeckbjinmgbbaaGreat