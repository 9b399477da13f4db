/- BlakeOwn: its walk. -/
import Derived.Test.YtbalnjejamigaaaSums
namespace Go.Proofs.Ytbalnjejamigaaa
open Go.X

theorem own_calls (A : Option Addr) (n cap : Nat) (bl : List Int) (p q : Int) (w : World) (hb0 : SrW w 1 A n (iv .u8 bl)) (hbb : bytes bl) (hbc : n ≤ cap) (hn : n ≤ 9223372036854775807) (hp64 : p ≤ 9223372036854775807) (hq64 : q ≤ 9223372036854775807) :
    Calls Try.prog 4 [.slice A n cap, .int .i64 p, .int .i64 q].toArray w fun e w' => e = .returned (.bool true) ∧ HP w w' [] [] := by
  refine calls_of_W Try.func4 rfl Try.ntmps4 rfl rfl (HP.refl w []) ?_
  refine W.seq ?_
  refine W.region ?_
  refine WL.as rfl rfl ?_
  refine WL.nil ?_
  refine WQ.then ?_
  refine W.seq ?_
  refine W.region ?_
  refine WL.pure _ rfl (by kernel_rfl) rfl (fun w hp => awake_calls w) ?_
  refine WL.as rfl rfl ?_
  refine WL.nil ?_
  refine WQ.then ?_
  refine W.seq ?_
  refine W.seq ?_
  refine W.region ?_
  refine WL.mv rfl rfl ?_
  refine WL.val rfl (V_lenS (by kernel_rfl) rfl) ?_
  refine WL.val rfl (V_gtr rfl rfl) ?_
  refine WL.mv rfl rfl ?_
  refine WL.splitD rfl (fun g1 => ?_) (fun g1 => ?_)
  ·
    refine WL.no rfl rfl (decide_eq_true g1) ?_
    refine WL.no rfl rfl (decide_eq_true g1) ?_
    refine WL.val rfl (V_pick_td rfl g1 rfl) ?_
    refine WL.mv rfl rfl ?_
    refine WL.no rfl rfl rfl ?_
    refine WL.no rfl rfl rfl ?_
    refine WL.val rfl (V_pick_t rfl rfl rfl) ?_
    refine WL.nil ?_
    refine WQ.then ?_
    refine W.cond_true rfl rfl ?_
    refine W.seq ?_
    refine W.region ?_
    refine WL.mv rfl rfl ?_
    refine WL.as rfl rfl ?_
    refine WL.nil ?_
    refine WQ.then ?_
    refine W.ret ?_
    refine WQ.then_ret ?_
    refine WQ.ret1 Try.results4 (.tmp rfl) ?_
    intro w' hp; exact ⟨rfl, hp.forget⟩
  ·
    refine WL.yes rfl (decide_eq_false g1) ?_
    refine WL.mv rfl rfl ?_
    refine WL.yes rfl (decide_eq_false g1) ?_
    refine WL.val rfl (V_lss rfl rfl) ?_
    refine WL.val rfl (V_pick_fd rfl g1 rfl) ?_
    refine WL.mv rfl rfl ?_
    refine WL.splitD rfl (fun g2 => ?_) (fun g2 => ?_)
    ·
      refine WL.no rfl rfl (decide_eq_true g2) ?_
      refine WL.no rfl rfl (decide_eq_true g2) ?_
      refine WL.val rfl (V_pick_td rfl g2 rfl) ?_
      refine WL.nil ?_
      refine WQ.then ?_
      refine W.cond_true rfl rfl ?_
      refine W.seq ?_
      refine W.region ?_
      refine WL.mv rfl rfl ?_
      refine WL.as rfl rfl ?_
      refine WL.nil ?_
      refine WQ.then ?_
      refine W.ret ?_
      refine WQ.then_ret ?_
      refine WQ.ret1 Try.results4 (.tmp rfl) ?_
      intro w' hp; exact ⟨rfl, hp.forget⟩
    ·
      refine WL.yes rfl (decide_eq_false g2) ?_
      refine WL.mv rfl rfl ?_
      refine WL.yes rfl (decide_eq_false g2) ?_
      refine WL.val rfl (V_lss rfl rfl) ?_
      refine WL.val rfl (V_pick_fd rfl g2 rfl) ?_
      refine WL.nil ?_
      refine WQ.then ?_
      refine W.cond_dec rfl (fun g3 => ?_) (fun g3 => ?_)
      ·
        refine W.seq ?_
        refine W.region ?_
        refine WL.mv rfl rfl ?_
        refine WL.as rfl rfl ?_
        refine WL.nil ?_
        refine WQ.then ?_
        refine W.ret ?_
        refine WQ.then_ret ?_
        refine WQ.ret1 Try.results4 (.tmp rfl) ?_
        intro w' hp; exact ⟨rfl, hp.forget⟩
      ·
        refine W.skip ?_
        refine WQ.then ?_
        refine W.seq ?_
        refine W.region ?_
        refine WL.mv rfl rfl ?_
        refine WL.mv rfl rfl ?_
        refine WL.val rfl (V_lenS (by kernel_rfl) rfl) ?_
        first | refine WL.val rfl (V_addN rfl rfl (by omega)) ?_ | refine WL.val rfl (V_add rfl rfl) ?_
        first | refine WL.val rfl (V_remN rfl rfl (by omega) (by omega)) ?_ | refine WL.val rfl (V_rem rfl rfl (by omega)) ?_
        refine WL.as rfl rfl ?_
        refine WL.nil ?_
        refine WQ.then ?_
        refine W.seq ?_
        refine W.region ?_
        have e0 := Int.emod_nonneg p (show (n : Int) + 1 ≠ 0 from by omega)
        have e1 := Int.emod_lt_of_pos p (show (0 : Int) < n + 1 from by omega)
        obtain ⟨i, hi⟩ : ∃ i : Nat, p % ((n : Int) + 1) = i := ⟨(p % ((n : Int) + 1)).toNat, by omega⟩
        rw [hi] at e1 ⊢
        refine WL.mv rfl rfl ?_
        refine WL.mv rfl rfl ?_
        refine WL.mv rfl rfl ?_
        refine WL.val rfl (V_lenS (by kernel_rfl) rfl) ?_
        first | refine WL.val rfl (V_addN rfl rfl (by omega)) ?_ | refine WL.val rfl (V_add rfl rfl) ?_
        refine WL.mv rfl rfl ?_
        first | refine WL.val rfl (V_subN rfl rfl (by omega)) ?_ | refine WL.val rfl (V_sub rfl rfl) ?_
        first | refine WL.val rfl (V_remN rfl rfl (by omega) (by omega)) ?_ | refine WL.val rfl (V_rem rfl rfl (by omega)) ?_
        have e2 := Int.emod_nonneg q (show (n : Int) + 1 - i ≠ 0 from by omega)
        have e3 := Int.emod_lt_of_pos q (show (0 : Int) < n + 1 - i from by omega)
        first | refine WL.val rfl (V_addN rfl rfl (by omega)) ?_ | refine WL.val rfl (V_add rfl rfl) ?_
        refine WL.as rfl rfl ?_
        refine WL.nil ?_
        refine WQ.then ?_
        refine W.seq ?_
        refine W.region ?_
        obtain ⟨k, hk⟩ : ∃ k : Nat, (i : Int) + q % ((n : Int) + 1 - i) = k := ⟨((i : Int) + q % ((n : Int) + 1 - i)).toNat, by omega⟩
        rw [hk]
        refine WL.bslice 5 1 rfl (by kernel_rfl) rfl rfl (by simp [one]) (by decide) ?_; intro b42
        refine WL.mv rfl rfl ?_
        refine WL.append 5 1 rfl (by kernel_rfl) rfl rfl (by omega) (by repeat (first | exact Del.here _ | apply Del.there)) hb0.old0 (by omega) (by omega) ?_; intro b44 c44 r44 h44
        refine WL.as rfl rfl ?_
        refine WL.nil ?_
        refine WQ.then ?_
        refine W.seq ?_
        refine W.region ?_
        rw [List.nil_append]
        refine WL.mv rfl rfl ?_
        refine WL.mv rfl rfl ?_
        refine WL.mv rfl rfl ?_
        refine WL.val rfl (V_slice (s := 1) (l := i) (h := k) (by kernel_rfl) rfl (.yes rfl rfl) (.yes rfl rfl) (by omega) (by omega)) ?_
        refine WL.pure (AG [(32, iv .u8 (macF [] ((bl.drop i).take (k - i))))]) rfl (by kernel_rfl) rfl (fun w hp => sum_calls _ _ _ ((bl.drop i).take (k - i)) w (by have := ((Sr.own (by repeat (first | exact At.head | exact At.headR | apply At.tail)) iv_one) w hp).cut (l := i) (h := k) (m := c44) (by omega) (by omega) (by omega); simpa [iv_drop, iv_take] using this) ((hbb.drop _).take _) (by omega) (by omega)) ?_
        refine WL.new rfl (E_alloc (zs := [(32, List.replicate 32 (.int .u8 0))]) ⟨by kernel_rfl, by repeat (first | exact Fit.nil | refine Fit.mk (by first | rfl | (simp; done) | (simp [iv_len]; done) | simp [iv_len, *]) ?_)⟩) ?_; intro b11
        refine WL.storeA 32 (by kernel_rfl) rfl rfl (by first | rfl | (simp [flat]; done) | (simp [flat, iv_len]; done) | simp [flat, iv_len, *]) (by repeat (first | exact Fit.nil | refine Fit.mk (by first | rfl | (simp; done) | (simp [iv_len]; done) | simp [iv_len, *]) ?_)) (by first | (simp [flat, one]; done) | simp [flat, iv, one]) (by repeat (first | exact Upd.here _ _ | apply Upd.there)) (by rfl) ?_
        refine WL.nil ?_
        refine WQ.then ?_
        refine W.seq ?_
        refine W.region ?_
        refine WL.bslice 5 1 rfl (by kernel_rfl) rfl rfl (by simp [one]) (by decide) ?_; intro b50
        refine WL.mv rfl rfl ?_
        refine WL.mv rfl rfl ?_
        refine WL.mv rfl rfl ?_
        refine WL.val rfl (V_slice (s := 1) (l := i) (h := k) (by kernel_rfl) rfl (.yes rfl rfl) (.yes rfl rfl) (by omega) (by omega)) ?_
        refine WL.append 5 1 rfl (by kernel_rfl) rfl rfl (by omega) (by repeat (first | exact Del.here _ | apply Del.there)) (hb0.old0.cut (l := i) (h := k) (m := cap) (by omega) (by omega) (by omega)) (by omega) (by omega) ?_; intro b55 c55 r55 h55
        rw [List.nil_append, Nat.mul_one, Nat.mul_one, iv_drop, iv_take]
        refine WL.pure (AG [(32, iv .u8 (macF [] ((bl.drop i).take (k - i))))]) rfl (by kernel_rfl) rfl (fun w hp => sum_calls _ _ _ ((bl.drop i).take (k - i)) w (Sr.own (by repeat (first | exact At.head | exact At.headR | apply At.tail)) iv_one w hp) ((hbb.drop _).take _) (by omega) (by omega)) ?_
        refine WL.new rfl (E_alloc (zs := [(32, List.replicate 32 (.int .u8 0))]) ⟨by kernel_rfl, by repeat (first | exact Fit.nil | refine Fit.mk (by first | rfl | (simp; done) | (simp [iv_len]; done) | simp [iv_len, *]) ?_)⟩) ?_; intro b12
        refine WL.storeA 32 (by kernel_rfl) rfl rfl (by first | rfl | (simp [flat]; done) | (simp [flat, iv_len]; done) | simp [flat, iv_len, *]) (by repeat (first | exact Fit.nil | refine Fit.mk (by first | rfl | (simp; done) | (simp [iv_len]; done) | simp [iv_len, *]) ?_)) (by first | (simp [flat, one]; done) | simp [flat, iv, one]) (by repeat (first | exact Upd.here _ _ | apply Upd.there)) (by rfl) ?_
        refine WL.nil ?_
        refine WQ.then ?_
        refine W.seq ?_
        refine W.region ?_
        refine WL.mv rfl rfl ?_
        refine WL.mv rfl rfl ?_
        refine WL.mv rfl rfl ?_
        refine WL.val rfl (V_slice (s := 1) (l := i) (h := k) (by kernel_rfl) rfl (.yes rfl rfl) (.yes rfl rfl) (by omega) (by omega)) ?_
        refine WL.pure (.tuple #[AG [(32, iv .u8 (macF [] ((bl.drop i).take (k - i))))], .int .i64 0]) rfl (by kernel_rfl) rfl (fun w hp => mac_calls _ _ _ _ _ _ [] ((bl.drop i).take (k - i)) w SrW.nil bnil (by decide) (by decide) (by have := (hb0.old0 w hp).cut (l := i) (h := k) (m := cap) (by omega) (by omega) (by omega); simpa [iv_drop, iv_take] using this) ((hbb.drop _).take _) (by omega) (by omega)) ?_
        refine WL.mv rfl rfl ?_
        refine WL.val rfl (V_extract rfl rfl) ?_
        refine WL.val rfl (V_extract rfl rfl) ?_
        refine WL.new rfl (E_alloc (zs := [(32, List.replicate 32 (.int .u8 0))]) ⟨by kernel_rfl, by repeat (first | exact Fit.nil | refine Fit.mk (by first | rfl | (simp; done) | (simp [iv_len]; done) | simp [iv_len, *]) ?_)⟩) ?_; intro b13
        refine WL.storeA 32 (by kernel_rfl) rfl rfl (by first | rfl | (simp [flat]; done) | (simp [flat, iv_len]; done) | simp [flat, iv_len, *]) (by repeat (first | exact Fit.nil | refine Fit.mk (by first | rfl | (simp; done) | (simp [iv_len]; done) | simp [iv_len, *]) ?_)) (by first | (simp [flat, one]; done) | simp [flat, iv, one]) (by repeat (first | exact Upd.here _ _ | apply Upd.there)) (by rfl) ?_
        refine WL.as rfl rfl ?_
        refine WL.nil ?_
        refine WQ.then ?_
        refine W.seq ?_
        refine W.region ?_
        refine WL.mv rfl rfl ?_
        refine WL.mv rfl rfl ?_
        refine WL.yes rfl rfl ?_
        refine WL.val rfl (V_loadA 32 (by kernel_rfl) rfl (by repeat (first | exact At.head | exact AtW.at ‹_› (by simp) | apply At.tail)) (by rfl)) ?_
        refine WL.yes rfl rfl ?_
        refine WL.val rfl (V_loadA 32 (by kernel_rfl) rfl (by repeat (first | exact At.head | exact AtW.at ‹_› (by simp) | apply At.tail)) (by rfl)) ?_
        refine WL.yes rfl rfl ?_
        refine WL.val rfl ((V_eqlI 3 32 .u8 (by decide) (by kernel_rfl) (by kernel_rfl) (by kernel_rfl) rfl rfl macF_len macF_len)) ?_
        refine WL.val rfl (V_pick_t rfl rfl rfl) ?_
        refine WL.mv rfl rfl ?_
        refine WL.yes rfl (by simp) ?_
        refine WL.mv rfl rfl ?_
        refine WL.yes rfl (by simp) ?_
        refine WL.val rfl (V_b2s (n := 0 + n) (l := bl) (by kernel_rfl) rfl (Sr.own (by repeat (first | exact At.head | exact At.headR | apply At.tail)) iv_one)) ?_
        refine WL.yes rfl (by simp) ?_
        refine WL.mv rfl rfl ?_
        refine WL.yes rfl (by simp) ?_
        refine WL.val rfl (V_b2s (by kernel_rfl) rfl hb0.old0) ?_
        refine WL.yes rfl (by simp) ?_
        refine WL.val rfl (V_eqlS rfl rfl) ?_
        refine WL.val rfl (V_pick_t rfl (by simp) rfl) ?_
        refine WL.mv rfl rfl ?_
        refine WL.yes rfl (by simp) ?_
        refine WL.val rfl (V_loadA 32 (by kernel_rfl) rfl (by repeat (first | exact At.head | exact AtW.at ‹_› (by simp) | apply At.tail)) (by rfl)) ?_
        refine WL.yes rfl (by simp) ?_
        refine WL.val rfl (V_loadA 32 (by kernel_rfl) rfl (by repeat (first | exact At.head | exact AtW.at ‹_› (by simp) | apply At.tail)) (by rfl)) ?_
        refine WL.yes rfl (by simp) ?_
        refine WL.val rfl ((V_eqlI 3 32 .u8 (by decide) (by kernel_rfl) (by kernel_rfl) (by kernel_rfl) rfl rfl macF_len macF_len)) ?_
        refine WL.val rfl (V_pick_t rfl (by simp) rfl) ?_
        refine WL.mv rfl rfl ?_
        refine WL.yes rfl (by simp) ?_
        refine WL.mv rfl rfl ?_
        refine WL.yes rfl (by simp) ?_
        refine WL.val rfl (V_eql rfl rfl) ?_
        refine WL.val rfl (V_pick_t rfl (by simp) rfl) ?_
        refine WL.as rfl rfl ?_
        refine WL.nil ?_
        refine WQ.then ?_
        refine W.ret ?_
        refine WQ.ret1 Try.results4 (.tmp rfl) ?_
        intro w' hp; refine ⟨by simp, hp.forget⟩

end Go.Proofs.Ytbalnjejamigaaa