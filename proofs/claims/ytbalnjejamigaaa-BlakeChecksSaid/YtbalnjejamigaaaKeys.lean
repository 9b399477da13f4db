/- BlakeKeys: its walk. -/
import Derived.Test.YtbalnjejamigaaaOwn
namespace Go.Proofs.Ytbalnjejamigaaa
open Go.X

theorem keys_calls (A : Option Addr) (m cap : Nat) (kl bl : List Int) (p : Int) (w : World) (hk32 : kl.length = 32) (hkb : bytes kl) (hb0 : SrW w 1 A m (iv .u8 bl)) (hbb : bytes bl) (hbc : m ≤ cap) :
    Calls Try.prog 5 [AG [(32, iv .u8 kl)], .int .i64 p, .slice A m cap].toArray w fun e w' => e = .returned (.bool true) ∧ HP w w' [] [] := by
  refine calls_of_W Try.func5 rfl Try.ntmps5 rfl rfl (HP.refl w []) ?_
  refine W.seq ?_
  refine W.region ?_
  refine WL.new rfl (E_boxA rfl (by repeat (first | exact Fit.nil | refine Fit.mk (by first | rfl | (simp; done) | (simp [iv_len]; done) | simp [iv_len, *]) ?_))) ?_; intro b3
  refine WL.as rfl rfl ?_
  refine WL.nil ?_
  refine WQ.then ?_
  refine W.seq ?_
  refine W.region ?_
  refine WL.pure _ rfl (by kernel_rfl) rfl (fun w hp => awake_calls w) ?_
  refine WL.as rfl rfl ?_
  refine WL.nil ?_
  refine WQ.then ?_
  refine W.seq ?_
  refine W.seq ?_
  refine W.region ?_
  refine WL.mv rfl rfl ?_
  refine WL.val rfl (V_lenS (by kernel_rfl) rfl) ?_
  refine WL.val rfl (V_gtr rfl rfl) ?_
  refine WL.mv rfl rfl ?_
  refine WL.splitD rfl (fun g1 => ?_) (fun g1 => ?_)
  ·
    refine WL.no rfl rfl (decide_eq_true g1) ?_
    refine WL.no rfl rfl (decide_eq_true g1) ?_
    refine WL.val rfl (V_pick_td rfl g1 rfl) ?_
    refine WL.mv rfl rfl ?_
    refine WL.no rfl rfl rfl ?_
    refine WL.no rfl rfl rfl ?_
    refine WL.val rfl (V_pick_t rfl rfl rfl) ?_
    refine WL.nil ?_
    refine WQ.then ?_
    refine W.cond_true rfl rfl ?_
    refine W.seq ?_
    refine W.region ?_
    refine WL.mv rfl rfl ?_
    refine WL.as rfl rfl ?_
    refine WL.nil ?_
    refine WQ.then ?_
    refine W.ret ?_
    refine WQ.then_ret ?_
    refine WQ.ret1 Try.results5 (.tmp rfl) ?_
    intro w' hp; exact ⟨rfl, hp.forget⟩
  ·
    refine WL.yes rfl (decide_eq_false g1) ?_
    refine WL.mv rfl rfl ?_
    refine WL.yes rfl (decide_eq_false g1) ?_
    refine WL.val rfl (V_lss rfl rfl) ?_
    refine WL.val rfl (V_pick_fd rfl g1 rfl) ?_
    refine WL.mv rfl rfl ?_
    refine WL.splitD rfl (fun g2 => ?_) (fun g2 => ?_)
    ·
      refine WL.no rfl rfl (decide_eq_true g2) ?_
      refine WL.no rfl rfl (decide_eq_true g2) ?_
      refine WL.val rfl (V_pick_td rfl g2 rfl) ?_
      refine WL.nil ?_
      refine WQ.then ?_
      refine W.cond_true rfl rfl ?_
      refine W.seq ?_
      refine W.region ?_
      refine WL.mv rfl rfl ?_
      refine WL.as rfl rfl ?_
      refine WL.nil ?_
      refine WQ.then ?_
      refine W.ret ?_
      refine WQ.then_ret ?_
      refine WQ.ret1 Try.results5 (.tmp rfl) ?_
      intro w' hp; exact ⟨rfl, hp.forget⟩
    ·
      refine WL.yes rfl (decide_eq_false g2) ?_
      refine WL.mv rfl rfl ?_
      refine WL.yes rfl (decide_eq_false g2) ?_
      refine WL.val rfl (V_gtr rfl rfl) ?_
      refine WL.val rfl (V_pick_fd rfl g2 rfl) ?_
      refine WL.nil ?_
      refine WQ.then ?_
      refine W.cond_dec rfl (fun g3 => ?_) (fun g3 => ?_)
      ·
        refine W.seq ?_
        refine W.region ?_
        refine WL.mv rfl rfl ?_
        refine WL.as rfl rfl ?_
        refine WL.nil ?_
        refine WQ.then ?_
        refine W.ret ?_
        refine WQ.then_ret ?_
        refine WQ.ret1 Try.results5 (.tmp rfl) ?_
        intro w' hp; exact ⟨rfl, hp.forget⟩
      ·
        refine W.skip ?_
        refine WQ.then ?_
        refine W.seq ?_
        refine W.region ?_
        obtain ⟨i, rfl⟩ : ∃ i : Nat, p = i := ⟨p.toNat, by omega⟩
        refine WL.mv rfl rfl ?_
        refine WL.val rfl (V_slicePN (s := 1) (len := 32) (l := 0) (h := i) i 32 (by kernel_rfl) rfl .no (.yes rfl rfl) (by omega) (by omega) (by omega) (by omega)) ?_
        refine WL.mv rfl rfl ?_
        refine WL.pure (.tuple #[AG [(32, iv .u8 (macF (kl.take i) bl))], .int .i64 0]) rfl (by kernel_rfl) rfl (fun w hp => mac_calls _ _ _ _ _ _ (kl.take i) bl w (by have := ((Sr.all (b := b3) (n := 32) (xs := iv .u8 kl) (by repeat (first | exact At.head | exact At.headR | apply At.tail)) iv_one) w hp).take (m := i) (by omega); rw [Nat.mul_one, iv_take] at this; exact this) (hkb.take _) (by omega) (by omega) (hb0.old0 w hp) hbb hbc (by omega)) ?_
        refine WL.mv rfl rfl ?_
        refine WL.val rfl (V_extract rfl rfl) ?_
        refine WL.val rfl (V_extract rfl rfl) ?_
        refine WL.new rfl (E_alloc (zs := [(32, List.replicate 32 (.int .u8 0))]) ⟨by kernel_rfl, by repeat (first | exact Fit.nil | refine Fit.mk (by first | rfl | (simp; done) | (simp [iv_len]; done) | simp [iv_len, *]) ?_)⟩) ?_; intro b8
        refine WL.storeA 32 (by kernel_rfl) rfl rfl (by first | rfl | (simp [flat]; done) | (simp [flat, iv_len]; done) | simp [flat, iv_len, *]) (by repeat (first | exact Fit.nil | refine Fit.mk (by first | rfl | (simp; done) | (simp [iv_len]; done) | simp [iv_len, *]) ?_)) (by first | (simp [flat, one]; done) | simp [flat, iv, one]) (by repeat (first | exact Upd.here _ _ | apply Upd.there)) (by rfl) ?_
        refine WL.as rfl rfl ?_
        refine WL.nil ?_
        refine WQ.then ?_
        refine W.seq ?_
        refine W.region ?_
        refine WL.mv rfl rfl ?_
        refine WL.val rfl (V_slicePN (s := 1) (len := 32) (l := 0) (h := i) i 32 (by kernel_rfl) rfl .no (.yes rfl rfl) (by omega) (by omega) (by omega) (by omega)) ?_
        refine WL.mv rfl rfl ?_
        refine WL.pure (.tuple #[AG [(32, iv .u8 (macF (kl.take i) bl))], .int .i64 0]) rfl (by kernel_rfl) rfl (fun w hp => rmac_calls _ _ _ _ _ _ (kl.take i) bl w (by have := ((Sr.all (b := b3) (n := 32) (xs := iv .u8 kl) (by repeat (first | exact At.head | exact At.headR | apply At.tail)) iv_one) w hp).take (m := i) (by omega); rw [Nat.mul_one, iv_take] at this; exact this) (hkb.take _) (by omega) (by omega) (hb0.old0 w hp) hbb hbc (by omega)) ?_
        refine WL.mv rfl rfl ?_
        refine WL.val rfl (V_extract rfl rfl) ?_
        refine WL.val rfl (V_extract rfl rfl) ?_
        refine WL.new rfl (E_alloc (zs := [(32, List.replicate 32 (.int .u8 0))]) ⟨by kernel_rfl, by repeat (first | exact Fit.nil | refine Fit.mk (by first | rfl | (simp; done) | (simp [iv_len]; done) | simp [iv_len, *]) ?_)⟩) ?_; intro b10
        refine WL.storeA 32 (by kernel_rfl) rfl rfl (by first | rfl | (simp [flat]; done) | (simp [flat, iv_len]; done) | simp [flat, iv_len, *]) (by repeat (first | exact Fit.nil | refine Fit.mk (by first | rfl | (simp; done) | (simp [iv_len]; done) | simp [iv_len, *]) ?_)) (by first | (simp [flat, one]; done) | simp [flat, iv, one]) (by repeat (first | exact Upd.here _ _ | apply Upd.there)) (by rfl) ?_
        refine WL.as rfl rfl ?_
        refine WL.nil ?_
        refine WQ.then ?_
        refine W.seq ?_
        refine W.region ?_
        refine WL.bslice 5 1 rfl (by kernel_rfl) rfl rfl (by simp [one]) (by decide) ?_; intro b44
        refine WL.mv rfl rfl ?_
        refine WL.val rfl (V_slicePN (s := 1) (len := 32) (l := 0) (h := i) i 32 (by kernel_rfl) rfl .no (.yes rfl rfl) (by omega) (by omega) (by omega) (by omega)) ?_
        refine WL.append 5 1 rfl (by kernel_rfl) rfl rfl (by omega) (by repeat (first | exact Del.here _ | apply Del.there)) (fun w hp => (by have := ((Sr.all (b := b3) (n := 32) (xs := iv .u8 kl) (by repeat (first | exact At.head | exact At.headR | apply At.tail)) iv_one) w hp).take (m := i) (by omega); rw [Nat.mul_one, iv_take] at this; exact this)) (by omega) (by omega) ?_; intro b47 c47 r47 h47
        refine WL.bslice 5 1 rfl (by kernel_rfl) rfl rfl (by simp [one]) (by decide) ?_; intro b48
        refine WL.append 5 1 rfl (by kernel_rfl) rfl rfl (by omega) (by repeat (first | exact Del.here _ | apply Del.there)) (by first | exact SrW.nil.old0 | exact SrW.old0 ‹_› | exact Sr.own (by repeat (first | exact At.head | exact At.headR | apply At.tail)) (by first | exact iv_one | simp [one]) | exact Sr.all (by repeat (first | exact At.head | exact At.headR | apply At.tail)) (by first | exact iv_one | simp [one])) (by omega) (by omega) ?_; intro b49 c49 r49 h49
        rw [List.nil_append, show [Value.int .u8 0] = iv .u8 [0] from rfl, iv_app]
        refine WL.mv rfl rfl ?_
        refine WL.pure (.tuple #[AG [(32, iv .u8 (macF (kl.take i ++ [0]) bl))], .int .i64 0]) rfl (by kernel_rfl) rfl (fun w hp => mac_calls _ _ _ _ _ _ (kl.take i ++ [0]) bl w (Sr.own (by repeat (first | exact At.head | exact At.headR | apply At.tail)) iv_one w hp) ((hkb.take _).app (by intro c hc; simp at hc; omega)) (by omega) (by omega) (hb0.old0 w hp) hbb hbc (by omega)) ?_
        refine WL.mv rfl rfl ?_
        refine WL.val rfl (V_extract rfl rfl) ?_
        refine WL.val rfl (V_extract rfl rfl) ?_
        refine WL.new rfl (E_alloc (zs := [(32, List.replicate 32 (.int .u8 0))]) ⟨by kernel_rfl, by repeat (first | exact Fit.nil | refine Fit.mk (by first | rfl | (simp; done) | (simp [iv_len]; done) | simp [iv_len, *]) ?_)⟩) ?_; intro b12
        refine WL.storeA 32 (by kernel_rfl) rfl rfl (by first | rfl | (simp [flat]; done) | (simp [flat, iv_len]; done) | simp [flat, iv_len, *]) (by repeat (first | exact Fit.nil | refine Fit.mk (by first | rfl | (simp; done) | (simp [iv_len]; done) | simp [iv_len, *]) ?_)) (by first | (simp [flat, one]; done) | simp [flat, iv, one]) (by repeat (first | exact Upd.here _ _ | apply Upd.there)) (by rfl) ?_
        refine WL.as rfl rfl ?_
        refine WL.nil ?_
        refine WQ.then ?_
        refine W.seq ?_
        refine W.region ?_
        refine WL.bslice 5 1 rfl (by kernel_rfl) rfl rfl (by simp [one]) (by decide) ?_; intro b55
        refine WL.mv rfl rfl ?_
        refine WL.val rfl (V_slicePN (s := 1) (len := 32) (l := 0) (h := i) i 32 (by kernel_rfl) rfl .no (.yes rfl rfl) (by omega) (by omega) (by omega) (by omega)) ?_
        refine WL.append 5 1 rfl (by kernel_rfl) rfl rfl (by omega) (by repeat (first | exact Del.here _ | apply Del.there)) (fun w hp => (by have := ((Sr.all (b := b3) (n := 32) (xs := iv .u8 kl) (by repeat (first | exact At.head | exact At.headR | apply At.tail)) iv_one) w hp).take (m := i) (by omega); rw [Nat.mul_one, iv_take] at this; exact this)) (by omega) (by omega) ?_; intro b58 c58 r58 h58
        refine WL.bslice 5 1 rfl (by kernel_rfl) rfl rfl (by simp [one]) (by decide) ?_; intro b59
        refine WL.append 5 1 rfl (by kernel_rfl) rfl rfl (by omega) (by repeat (first | exact Del.here _ | apply Del.there)) (by first | exact SrW.nil.old0 | exact SrW.old0 ‹_› | exact Sr.own (by repeat (first | exact At.head | exact At.headR | apply At.tail)) (by first | exact iv_one | simp [one]) | exact Sr.all (by repeat (first | exact At.head | exact At.headR | apply At.tail)) (by first | exact iv_one | simp [one])) (by omega) (by omega) ?_; intro b60 c60 r60 h60
        rw [List.nil_append, show [Value.int .u8 0] = iv .u8 [0] from rfl, iv_app]
        refine WL.mv rfl rfl ?_
        refine WL.pure (.tuple #[AG [(32, iv .u8 (macF (kl.take i ++ [0]) bl))], .int .i64 0]) rfl (by kernel_rfl) rfl (fun w hp => rmac_calls _ _ _ _ _ _ (kl.take i ++ [0]) bl w (Sr.own (by repeat (first | exact At.head | exact At.headR | apply At.tail)) iv_one w hp) ((hkb.take _).app (by intro c hc; simp at hc; omega)) (by omega) (by omega) (hb0.old0 w hp) hbb hbc (by omega)) ?_
        refine WL.mv rfl rfl ?_
        refine WL.val rfl (V_extract rfl rfl) ?_
        refine WL.val rfl (V_extract rfl rfl) ?_
        refine WL.new rfl (E_alloc (zs := [(32, List.replicate 32 (.int .u8 0))]) ⟨by kernel_rfl, by repeat (first | exact Fit.nil | refine Fit.mk (by first | rfl | (simp; done) | (simp [iv_len]; done) | simp [iv_len, *]) ?_)⟩) ?_; intro b14
        refine WL.storeA 32 (by kernel_rfl) rfl rfl (by first | rfl | (simp [flat]; done) | (simp [flat, iv_len]; done) | simp [flat, iv_len, *]) (by repeat (first | exact Fit.nil | refine Fit.mk (by first | rfl | (simp; done) | (simp [iv_len]; done) | simp [iv_len, *]) ?_)) (by first | (simp [flat, one]; done) | simp [flat, iv, one]) (by repeat (first | exact Upd.here _ _ | apply Upd.there)) (by rfl) ?_
        refine WL.as rfl rfl ?_
        refine WL.nil ?_
        refine WQ.then ?_
        refine W.seq ?_
        refine W.region ?_
        refine WL.mv rfl rfl ?_
        refine WL.mv rfl rfl ?_
        refine WL.yes rfl rfl ?_
        refine WL.val rfl (V_loadA 32 (by kernel_rfl) rfl (by repeat (first | exact At.head | exact AtW.at ‹_› (by simp) | apply At.tail)) (by rfl)) ?_
        refine WL.yes rfl rfl ?_
        refine WL.val rfl (V_loadA 32 (by kernel_rfl) rfl (by repeat (first | exact At.head | exact AtW.at ‹_› (by simp) | apply At.tail)) (by rfl)) ?_
        refine WL.yes rfl rfl ?_
        refine WL.val rfl ((V_eqlI 3 32 .u8 (by decide) (by kernel_rfl) (by kernel_rfl) (by kernel_rfl) rfl rfl macF_len macF_len)) ?_
        refine WL.val rfl (V_pick_t rfl rfl rfl) ?_
        refine WL.mv rfl rfl ?_
        refine WL.yes rfl (by simp) ?_
        refine WL.mv rfl rfl ?_
        refine WL.yes rfl (by simp) ?_
        refine WL.mv rfl rfl ?_
        refine WL.yes rfl (by simp) ?_
        refine WL.val rfl (V_eql rfl rfl) ?_
        refine WL.val rfl (V_pick_t rfl (by simp) rfl) ?_
        refine WL.mv rfl rfl ?_
        refine WL.yes rfl (by decide) ?_
        refine WL.val rfl (V_loadA 32 (by kernel_rfl) rfl (by repeat (first | exact At.head | exact AtW.at ‹_› (by simp) | apply At.tail)) (by rfl)) ?_
        refine WL.yes rfl (by decide) ?_
        refine WL.val rfl (V_loadA 32 (by kernel_rfl) rfl (by repeat (first | exact At.head | exact AtW.at ‹_› (by simp) | apply At.tail)) (by rfl)) ?_
        refine WL.yes rfl (by decide) ?_
        refine WL.val rfl ((V_eqlI 3 32 .u8 (by decide) (by kernel_rfl) (by kernel_rfl) (by kernel_rfl) rfl rfl macF_len macF_len)) ?_
        refine WL.val rfl (V_pick_t rfl (by decide) rfl) ?_
        refine WL.mv rfl rfl ?_
        refine WL.yes rfl (by simp) ?_
        refine WL.mv rfl rfl ?_
        refine WL.yes rfl (by simp) ?_
        refine WL.mv rfl rfl ?_
        refine WL.yes rfl (by simp) ?_
        refine WL.val rfl (V_eql rfl rfl) ?_
        refine WL.val rfl (V_pick_t rfl (by simp) rfl) ?_
        refine WL.mv rfl rfl ?_
        refine WL.yes rfl (by decide) ?_
        refine WL.mv rfl rfl ?_
        refine WL.yes rfl (by decide) ?_
        refine WL.val rfl (V_eql rfl rfl) ?_
        refine WL.val rfl (V_pick_t rfl (by decide) rfl) ?_
        refine WL.mv rfl rfl ?_
        refine WL.yes rfl (by decide) ?_
        refine WL.mv rfl rfl ?_
        refine WL.yes rfl (by decide) ?_
        refine WL.val rfl (V_eql rfl rfl) ?_
        refine WL.val rfl (V_pick_t rfl (by decide) rfl) ?_
        refine WL.as rfl rfl ?_
        refine WL.nil ?_
        refine WQ.then ?_
        refine W.ret ?_
        refine WQ.ret1 Try.results5 (.tmp rfl) ?_
        intro w' hp; refine ⟨by simp, hp.forget⟩

end Go.Proofs.Ytbalnjejamigaaa