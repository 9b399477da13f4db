/- BlakeSums: its walk. -/
import Derived.Test.YtbalnjejamigaaaSum
namespace Go.Proofs.Ytbalnjejamigaaa
open Go.X

theorem sums_calls (A BA : Option Addr) (n kcap m bcap : Nat) (kl bl : List Int) (w : World) (hk : SrW w 1 A n (iv .u8 kl)) (hkb : bytes kl) (hkc : n ≤ kcap) (hn : n ≤ 9223372036854775807) (hb0 : SrW w 1 BA m (iv .u8 bl)) (hbb : bytes bl) (hbc : m ≤ bcap) (hm : m ≤ 9223372036854775807) (h32 : n ≤ 32) :
    Calls Try.prog 3 [.slice A n kcap, .slice BA m bcap].toArray w fun e w' => e = .returned (.bool true) ∧ HP w w' [] [] := by
  have hml : (macF kl bl).length = 32 := macF_len
  have hml0 : (macF [] bl).length = 32 := macF_len
  have hrl : (List.replicate 32 (0 : Int)).length = 32 := rfl
  refine calls_of_W Try.func3 rfl Try.ntmps3 rfl rfl (HP.refl w []) ?_
  refine W.seq ?_
  refine W.region ?_
  refine WL.as rfl rfl ?_
  refine WL.nil ?_
  refine WQ.then ?_
  refine W.seq ?_
  refine W.region ?_
  refine WL.pure _ rfl (by kernel_rfl) rfl (fun w hp => awake_calls w) ?_
  refine WL.as rfl rfl ?_
  refine WL.nil ?_
  refine WQ.then ?_
  refine W.seq ?_
  refine W.seq ?_
  refine W.region ?_
  refine WL.mv rfl rfl ?_
  refine WL.val rfl (V_lenS (by kernel_rfl) rfl) ?_
  refine WL.val rfl (V_gtr rfl rfl) ?_
  refine WL.mv rfl rfl ?_
  refine WL.splitD rfl (fun g1 => ?_) (fun g1 => ?_)
  ·
    refine WL.no rfl rfl (decide_eq_true g1) ?_
    refine WL.no rfl rfl (decide_eq_true g1) ?_
    refine WL.no rfl rfl (decide_eq_true g1) ?_
    refine WL.val rfl (V_pick_td rfl g1 rfl) ?_
    refine WL.nil ?_
    refine WQ.then ?_
    refine W.cond_true rfl rfl ?_
    refine W.seq ?_
    refine W.region ?_
    refine WL.mv rfl rfl ?_
    refine WL.as rfl rfl ?_
    refine WL.nil ?_
    refine WQ.then ?_
    refine W.ret ?_
    refine WQ.then_ret ?_
    refine WQ.ret1 Try.results3 (.tmp rfl) ?_
    intro w' hp; exact ⟨rfl, hp.forget⟩
  ·
    refine WL.yes rfl (decide_eq_false g1) ?_
    refine WL.mv rfl rfl ?_
    refine WL.yes rfl (decide_eq_false g1) ?_
    refine WL.val rfl (V_lenS (by kernel_rfl) rfl) ?_
    refine WL.yes rfl (decide_eq_false g1) ?_
    refine WL.val rfl (V_gtr rfl rfl) ?_
    refine WL.val rfl (V_pick_fd rfl g1 rfl) ?_
    refine WL.nil ?_
    refine WQ.then ?_
    refine W.cond_dec rfl (fun g2 => ?_) (fun g2 => ?_)
    ·
      refine W.seq ?_
      refine W.region ?_
      refine WL.mv rfl rfl ?_
      refine WL.as rfl rfl ?_
      refine WL.nil ?_
      refine WQ.then ?_
      refine W.ret ?_
      refine WQ.then_ret ?_
      refine WQ.ret1 Try.results3 (.tmp rfl) ?_
      intro w' hp; exact ⟨rfl, hp.forget⟩
    ·
      refine W.skip ?_
      refine WQ.then ?_
      refine W.seq ?_
      refine W.region ?_
      refine WL.mv rfl rfl ?_
      refine WL.mv rfl rfl ?_
      refine WL.pure (.tuple #[AG [(32, iv .u8 (macF kl bl))], .int .i64 0]) rfl (by kernel_rfl) rfl (fun w hp => mac_calls _ _ _ _ _ _ kl bl w (hk.old0 w hp) hkb hkc (by omega) (hb0.old0 w hp) hbb hbc (by omega)) ?_
      refine WL.mv rfl rfl ?_
      refine WL.val rfl (V_extract rfl rfl) ?_
      refine WL.val rfl (V_extract rfl rfl) ?_
      refine WL.new rfl (E_alloc (zs := [(32, List.replicate 32 (.int .u8 0))]) ⟨by kernel_rfl, by repeat (first | exact Fit.nil | refine Fit.mk (by first | rfl | (simp; done) | (simp [iv_len]; done) | simp [iv_len, *]) ?_)⟩) ?_; intro b6
      refine WL.storeA 32 (by kernel_rfl) rfl rfl (by first | rfl | (simp [flat]; done) | (simp [flat, iv_len]; done) | simp [flat, iv_len, *]) (by repeat (first | exact Fit.nil | refine Fit.mk (by first | rfl | (simp; done) | (simp [iv_len]; done) | simp [iv_len, *]) ?_)) (by first | (simp [flat, one]; done) | simp [flat, iv, one]) (by repeat (first | exact Upd.here _ _ | apply Upd.there)) (by rfl) ?_
      refine WL.as rfl rfl ?_
      refine WL.nil ?_
      refine WQ.then ?_
      refine W.seq ?_
      refine W.region ?_
      refine WL.mv rfl rfl ?_
      refine WL.mv rfl rfl ?_
      refine WL.pure (.tuple #[AG [(32, iv .u8 (macF kl bl))], .int .i64 0]) rfl (by kernel_rfl) rfl (fun w hp => rmac_calls _ _ _ _ _ _ kl bl w (hk.old0 w hp) hkb hkc (by omega) (hb0.old0 w hp) hbb hbc (by omega)) ?_
      refine WL.mv rfl rfl ?_
      refine WL.val rfl (V_extract rfl rfl) ?_
      refine WL.val rfl (V_extract rfl rfl) ?_
      refine WL.new rfl (E_alloc (zs := [(32, List.replicate 32 (.int .u8 0))]) ⟨by kernel_rfl, by repeat (first | exact Fit.nil | refine Fit.mk (by first | rfl | (simp; done) | (simp [iv_len]; done) | simp [iv_len, *]) ?_)⟩) ?_; intro b8
      refine WL.storeA 32 (by kernel_rfl) rfl rfl (by first | rfl | (simp [flat]; done) | (simp [flat, iv_len]; done) | simp [flat, iv_len, *]) (by repeat (first | exact Fit.nil | refine Fit.mk (by first | rfl | (simp; done) | (simp [iv_len]; done) | simp [iv_len, *]) ?_)) (by first | (simp [flat, one]; done) | simp [flat, iv, one]) (by repeat (first | exact Upd.here _ _ | apply Upd.there)) (by rfl) ?_
      refine WL.as rfl rfl ?_
      refine WL.nil ?_
      refine WQ.then ?_
      refine W.seq ?_
      refine W.region ?_
      refine WL.mv rfl rfl ?_
      refine WL.mv rfl rfl ?_
      refine WL.yes rfl rfl ?_
      refine WL.val rfl (V_loadA 32 (by kernel_rfl) rfl (by repeat (first | exact At.head | exact AtW.at ‹_› (by simp) | apply At.tail)) (by rfl)) ?_
      refine WL.yes rfl rfl ?_
      refine WL.val rfl (V_loadA 32 (by kernel_rfl) rfl (by repeat (first | exact At.head | exact AtW.at ‹_› (by simp) | apply At.tail)) (by rfl)) ?_
      refine WL.yes rfl rfl ?_
      refine WL.val rfl ((V_eqlI 3 32 .u8 (by decide) (by kernel_rfl) (by kernel_rfl) (by kernel_rfl) rfl rfl (by first | exact macF_len | assumption) (by first | exact macF_len | assumption))) ?_
      refine WL.val rfl (V_pick_t rfl rfl rfl) ?_
      refine WL.mv rfl rfl ?_
      refine WL.yes rfl (by simp) ?_
      refine WL.mv rfl rfl ?_
      refine WL.yes rfl (by simp) ?_
      refine WL.mv rfl rfl ?_
      refine WL.yes rfl (by simp) ?_
      refine WL.val rfl (V_eql rfl rfl) ?_
      refine WL.val rfl (V_pick_t rfl (by simp) rfl) ?_
      refine WL.mv rfl rfl ?_
      refine WL.yes rfl (by decide) ?_
      refine WL.mv rfl rfl ?_
      refine WL.yes rfl (by decide) ?_
      refine WL.pure (AG [(32, iv .u8 (macF [] bl))]) rfl (by kernel_rfl) rfl (fun w hp => sum_calls _ _ _ bl w (hb0.old0 w hp) hbb hbc (by omega)) ?_
      refine WL.yes rfl (by decide) ?_
      refine WL.mv rfl rfl ?_
      refine WL.yes rfl (by decide) ?_
      refine WL.pure (AG [(32, iv .u8 (macF [] bl))]) rfl (by kernel_rfl) rfl (fun w hp => rsum_calls _ _ _ bl w (hb0.old0 w hp) hbb hbc (by omega)) ?_
      refine WL.yes rfl (by decide) ?_
      refine WL.val rfl ((V_eqlI 3 32 .u8 (by decide) (by kernel_rfl) (by kernel_rfl) (by kernel_rfl) rfl rfl (by first | exact macF_len | assumption) (by first | exact macF_len | assumption))) ?_
      refine WL.val rfl (V_pick_t rfl (by decide) rfl) ?_
      refine WL.as rfl rfl ?_
      refine WL.nil ?_
      refine WQ.then ?_
      refine W.ret ?_
      refine WQ.ret1 Try.results3 (.tmp rfl) ?_
      intro w' hp; refine ⟨by simp, hp.forget⟩

theorem sums_callsBad (A BA : Option Addr) (n kcap m bcap : Nat) (kl bl : List Int) (w : World) (hk : SrW w 1 A n (iv .u8 kl)) (hkb : bytes kl) (hkc : n ≤ kcap) (hn : n ≤ 9223372036854775807) (hb0 : SrW w 1 BA m (iv .u8 bl)) (hbb : bytes bl) (hbc : m ≤ bcap) (hm : m ≤ 9223372036854775807) (h32 : 32 < n) :
    Calls Try.prog 3 [.slice A n kcap, .slice BA m bcap].toArray w fun e w' => e = .returned (.bool true) ∧ HP w w' [] [] := by
  have hml : (macF kl bl).length = 32 := macF_len
  have hml0 : (macF [] bl).length = 32 := macF_len
  have hrl : (List.replicate 32 (0 : Int)).length = 32 := rfl
  refine calls_of_W Try.func3 rfl Try.ntmps3 rfl rfl (HP.refl w []) ?_
  refine W.seq ?_
  refine W.region ?_
  refine WL.as rfl rfl ?_
  refine WL.nil ?_
  refine WQ.then ?_
  refine W.seq ?_
  refine W.region ?_
  refine WL.pure _ rfl (by kernel_rfl) rfl (fun w hp => awake_calls w) ?_
  refine WL.as rfl rfl ?_
  refine WL.nil ?_
  refine WQ.then ?_
  refine W.seq ?_
  refine W.seq ?_
  refine W.region ?_
  refine WL.mv rfl rfl ?_
  refine WL.val rfl (V_lenS (by kernel_rfl) rfl) ?_
  refine WL.val rfl (V_gtr rfl rfl) ?_
  refine WL.mv rfl rfl ?_
  refine WL.splitD rfl (fun g1 => ?_) (fun g1 => ?_)
  ·
    refine WL.no rfl rfl (decide_eq_true g1) ?_
    refine WL.no rfl rfl (decide_eq_true g1) ?_
    refine WL.no rfl rfl (decide_eq_true g1) ?_
    refine WL.val rfl (V_pick_td rfl g1 rfl) ?_
    refine WL.nil ?_
    refine WQ.then ?_
    refine W.cond_true rfl rfl ?_
    refine W.seq ?_
    refine W.region ?_
    refine WL.mv rfl rfl ?_
    refine WL.as rfl rfl ?_
    refine WL.nil ?_
    refine WQ.then ?_
    refine W.ret ?_
    refine WQ.then_ret ?_
    refine WQ.ret1 Try.results3 (.tmp rfl) ?_
    intro w' hp; exact ⟨rfl, hp.forget⟩
  ·
    refine WL.yes rfl (decide_eq_false g1) ?_
    refine WL.mv rfl rfl ?_
    refine WL.yes rfl (decide_eq_false g1) ?_
    refine WL.val rfl (V_lenS (by kernel_rfl) rfl) ?_
    refine WL.yes rfl (decide_eq_false g1) ?_
    refine WL.val rfl (V_gtr rfl rfl) ?_
    refine WL.val rfl (V_pick_fd rfl g1 rfl) ?_
    refine WL.nil ?_
    refine WQ.then ?_
    refine W.cond_dec rfl (fun g2 => ?_) (fun g2 => ?_)
    ·
      refine W.seq ?_
      refine W.region ?_
      refine WL.mv rfl rfl ?_
      refine WL.as rfl rfl ?_
      refine WL.nil ?_
      refine WQ.then ?_
      refine W.ret ?_
      refine WQ.then_ret ?_
      refine WQ.ret1 Try.results3 (.tmp rfl) ?_
      intro w' hp; exact ⟨rfl, hp.forget⟩
    ·
      refine W.skip ?_
      refine WQ.then ?_
      refine W.seq ?_
      refine W.region ?_
      refine WL.mv rfl rfl ?_
      refine WL.mv rfl rfl ?_
      refine WL.pure (.tuple #[AG [(32, iv .u8 (List.replicate 32 0))], .int .i64 1]) rfl (by kernel_rfl) rfl (fun w hp => mac_bad _ _ _ _ _ _ w (by omega)) ?_
      refine WL.mv rfl rfl ?_
      refine WL.val rfl (V_extract rfl rfl) ?_
      refine WL.val rfl (V_extract rfl rfl) ?_
      refine WL.new rfl (E_alloc (zs := [(32, List.replicate 32 (.int .u8 0))]) ⟨by kernel_rfl, by repeat (first | exact Fit.nil | refine Fit.mk (by first | rfl | (simp; done) | (simp [iv_len]; done) | simp [iv_len, *]) ?_)⟩) ?_; intro b6
      refine WL.storeA 32 (by kernel_rfl) rfl rfl (by first | rfl | (simp [flat]; done) | (simp [flat, iv_len]; done) | simp [flat, iv_len, *]) (by repeat (first | exact Fit.nil | refine Fit.mk (by first | rfl | (simp; done) | (simp [iv_len]; done) | simp [iv_len, *]) ?_)) (by first | (simp [flat, one]; done) | simp [flat, iv, one]) (by repeat (first | exact Upd.here _ _ | apply Upd.there)) (by rfl) ?_
      refine WL.as rfl rfl ?_
      refine WL.nil ?_
      refine WQ.then ?_
      refine W.seq ?_
      refine W.region ?_
      refine WL.mv rfl rfl ?_
      refine WL.mv rfl rfl ?_
      refine WL.pure (.tuple #[AG [(32, iv .u8 (List.replicate 32 0))], .int .i64 1]) rfl (by kernel_rfl) rfl (fun w hp => rmac_bad _ _ _ _ _ _ w (by omega)) ?_
      refine WL.mv rfl rfl ?_
      refine WL.val rfl (V_extract rfl rfl) ?_
      refine WL.val rfl (V_extract rfl rfl) ?_
      refine WL.new rfl (E_alloc (zs := [(32, List.replicate 32 (.int .u8 0))]) ⟨by kernel_rfl, by repeat (first | exact Fit.nil | refine Fit.mk (by first | rfl | (simp; done) | (simp [iv_len]; done) | simp [iv_len, *]) ?_)⟩) ?_; intro b8
      refine WL.storeA 32 (by kernel_rfl) rfl rfl (by first | rfl | (simp [flat]; done) | (simp [flat, iv_len]; done) | simp [flat, iv_len, *]) (by repeat (first | exact Fit.nil | refine Fit.mk (by first | rfl | (simp; done) | (simp [iv_len]; done) | simp [iv_len, *]) ?_)) (by first | (simp [flat, one]; done) | simp [flat, iv, one]) (by repeat (first | exact Upd.here _ _ | apply Upd.there)) (by rfl) ?_
      refine WL.as rfl rfl ?_
      refine WL.nil ?_
      refine WQ.then ?_
      refine W.seq ?_
      refine W.region ?_
      refine WL.mv rfl rfl ?_
      refine WL.mv rfl rfl ?_
      refine WL.yes rfl rfl ?_
      refine WL.val rfl (V_loadA 32 (by kernel_rfl) rfl (by repeat (first | exact At.head | exact AtW.at ‹_› (by simp) | apply At.tail)) (by rfl)) ?_
      refine WL.yes rfl rfl ?_
      refine WL.val rfl (V_loadA 32 (by kernel_rfl) rfl (by repeat (first | exact At.head | exact AtW.at ‹_› (by simp) | apply At.tail)) (by rfl)) ?_
      refine WL.yes rfl rfl ?_
      refine WL.val rfl ((V_eqlI 3 32 .u8 (by decide) (by kernel_rfl) (by kernel_rfl) (by kernel_rfl) rfl rfl (by first | exact macF_len | assumption) (by first | exact macF_len | assumption))) ?_
      refine WL.val rfl (V_pick_t rfl rfl rfl) ?_
      refine WL.mv rfl rfl ?_
      refine WL.yes rfl (by simp) ?_
      refine WL.mv rfl rfl ?_
      refine WL.yes rfl (by simp) ?_
      refine WL.mv rfl rfl ?_
      refine WL.yes rfl (by simp) ?_
      refine WL.val rfl (V_eql rfl rfl) ?_
      refine WL.val rfl (V_pick_t rfl (by simp) rfl) ?_
      refine WL.mv rfl rfl ?_
      refine WL.yes rfl (by decide) ?_
      refine WL.mv rfl rfl ?_
      refine WL.yes rfl (by decide) ?_
      refine WL.pure (AG [(32, iv .u8 (macF [] bl))]) rfl (by kernel_rfl) rfl (fun w hp => sum_calls _ _ _ bl w (hb0.old0 w hp) hbb hbc (by omega)) ?_
      refine WL.yes rfl (by decide) ?_
      refine WL.mv rfl rfl ?_
      refine WL.yes rfl (by decide) ?_
      refine WL.pure (AG [(32, iv .u8 (macF [] bl))]) rfl (by kernel_rfl) rfl (fun w hp => rsum_calls _ _ _ bl w (hb0.old0 w hp) hbb hbc (by omega)) ?_
      refine WL.yes rfl (by decide) ?_
      refine WL.val rfl ((V_eqlI 3 32 .u8 (by decide) (by kernel_rfl) (by kernel_rfl) (by kernel_rfl) rfl rfl (by first | exact macF_len | assumption) (by first | exact macF_len | assumption))) ?_
      refine WL.val rfl (V_pick_t rfl (by decide) rfl) ?_
      refine WL.as rfl rfl ?_
      refine WL.nil ?_
      refine WQ.then ?_
      refine W.ret ?_
      refine WQ.ret1 Try.results3 (.tmp rfl) ?_
      intro w' hp; refine ⟨by simp, hp.forget⟩

end Go.Proofs.Ytbalnjejamigaaa