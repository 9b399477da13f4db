/- blake.Check. -/
import Derived.Test.YtbalnjejamigaaaKeys
namespace Go.Proofs.Ytbalnjejamigaaa
open Go.X

theorem check_calls (A BA : Option Addr) (n kcap m bcap : Nat) (kl bl tl : List Int) (w : World) (hk : SrW w 1 A n (iv .u8 kl)) (hkb : bytes kl) (hkc : n ≤ kcap) (hk32 : n ≤ 32) (hb0 : SrW w 1 BA m (iv .u8 bl)) (hbb : bytes bl) (hbc : m ≤ bcap) (hm : m ≤ 4000000) (ht : tl.length = 32) (htb : bytes tl) :
    Calls Try.prog 25 [.slice A n kcap, .slice BA m bcap, AG [(32, iv .u8 tl)]].toArray w fun e w' => e = .returned (.int .i64 (if macF kl bl = tl then 0 else 4)) ∧ HP w w' [] [] := by
  have hml : (macF kl bl).length = 32 := macF_len
  refine calls_of_W Try.func25 rfl Try.ntmps25 rfl rfl (HP.refl w []) ?_
  refine W.seq ?_
  refine W.region ?_
  refine WL.new rfl (E_boxA rfl (by repeat (first | exact Fit.nil | refine Fit.mk (by first | rfl | (simp; done) | (simp [iv_len]; done) | simp [iv_len, *]) ?_))) ?_; intro b5
  refine WL.as rfl rfl ?_
  refine WL.nil ?_
  refine WQ.then ?_
  refine W.seq ?_
  refine W.region ?_
  refine WL.mv rfl rfl ?_
  refine WL.mv rfl rfl ?_
  refine WL.pure (.tuple #[AG [(32, iv .u8 (macF kl bl))], .int .i64 0]) rfl (by kernel_rfl) rfl (fun w hp => mac_calls _ _ _ _ _ _ kl bl w (hk.old0 w hp) hkb hkc hk32 (hb0.old0 w hp) hbb hbc hm) ?_
  refine WL.mv rfl rfl ?_
  refine WL.val rfl (V_extract rfl rfl) ?_
  refine WL.val rfl (V_extract rfl rfl) ?_
  refine WL.new rfl (E_alloc (zs := [(32, List.replicate 32 (.int .u8 0))]) ⟨by kernel_rfl, by repeat (first | exact Fit.nil | refine Fit.mk (by first | rfl | (simp; done) | (simp [iv_len]; done) | simp [iv_len, *]) ?_)⟩) ?_; intro b7
  refine WL.storeA 32 (by kernel_rfl) rfl rfl (by first | rfl | (simp [flat]; done) | (simp [flat, iv_len]; done) | simp [flat, iv_len, *]) (by repeat (first | exact Fit.nil | refine Fit.mk (by first | rfl | (simp; done) | (simp [iv_len]; done) | simp [iv_len, *]) ?_)) (by first | (simp [flat, one]; done) | simp [flat, iv, one]) (by repeat (first | exact Upd.here _ _ | apply Upd.there)) (by rfl) ?_
  refine WL.as rfl rfl ?_
  refine WL.nil ?_
  refine WQ.then ?_
  refine W.seq ?_
  refine W.seq ?_
  refine W.region ?_
  refine WL.mv rfl rfl ?_
  refine WL.val rfl (V_neq rfl rfl) ?_
  refine WL.nil ?_
  refine WQ.then ?_
  refine W.cond_false rfl (by decide) ?_
  refine W.skip ?_
  refine WQ.then ?_
  refine W.seq ?_
  refine W.seq ?_
  refine W.drawn (.q 0 (.q 1 (.l 2 (.q 3 (.done))))) [] (by kernel_rfl) (fun _ a d _ _ h => by cases d <;> exact h) (by kernel_rfl) (by repeat (first | exact List.Sublist.refl _ | exact List.nil_sublist _ | refine List.Sublist.cons_cons _ ?_ | refine List.Sublist.cons _ ?_)) ?_
  refine WD.q rfl rfl (V_slicePN (s := 1) (len := 32) (l := 0) (h := 32) 32 32 (by kernel_rfl) rfl .no .no rfl rfl (by decide) (by decide)) ?_
  refine WD.q rfl rfl (V_slicePN (s := 1) (len := 32) (l := 0) (h := 32) 32 32 (by kernel_rfl) rfl .no .no rfl rfl (by decide) (by decide)) ?_
  refine WD.l ?_
  refine WO.cal rfl rfl (by repeat (first | exact List.Sublist.refl _ | exact List.nil_sublist _ | refine List.Sublist.cons_cons _ ?_ | refine List.Sublist.cons _ ?_)) (C_pure _ (by kernel_rfl) rfl (fun w hp => same_calls _ _ _ _ _ _ (macF kl bl) tl w (Sr.all (b := b7) (n := 32) (xs := iv .u8 (macF kl bl)) (by repeat (first | exact At.head | exact At.headR | apply At.tail)) iv_one w hp) macF_bytes (Sr.all (b := b5) (n := 32) (xs := iv .u8 tl) (by repeat (first | exact At.head | exact At.headR | apply At.tail)) iv_one w hp) htb (by decide))) ?_; rintro _ _ ⟨rfl, rfl⟩; refine ⟨by simp, ?_⟩
  refine WD.q rfl rfl (V_not rfl) ?_
  refine WD.done ?_
  refine WQ.then ?_
  refine W.cond rfl (fun g1 => ?_) (fun g1 => ?_)
  ·
    refine W.seq ?_
    refine W.region ?_
    refine WL.as rfl rfl ?_
    refine WL.nil ?_
    refine WQ.then ?_
    refine W.ret ?_
    refine WQ.then_ret ?_
    refine WQ.ret1 Try.results25 (.tmp rfl) ?_
    intro w' hp; rw [if_neg (by simpa using g1)]; exact ⟨rfl, hp.forget⟩
  ·
    refine W.skip ?_
    refine WQ.then ?_
    refine W.seq ?_
    refine W.region ?_
    refine WL.as rfl rfl ?_
    refine WL.nil ?_
    refine WQ.then ?_
    refine W.ret ?_
    refine WQ.ret1 Try.results25 (.tmp rfl) ?_
    intro w' hp; rw [if_pos (by simpa using g1)]; exact ⟨rfl, hp.forget⟩

theorem check_bad (A BA : Option Addr) (n kcap m bcap : Nat) (tl : List Int) (w : World) (h32 : 32 < n) (ht : tl.length = 32) :
    Calls Try.prog 25 [.slice A n kcap, .slice BA m bcap, AG [(32, iv .u8 tl)]].toArray w fun e w' => e = .returned (.int .i64 1) ∧ HP w w' [] [] := by
  refine calls_of_W Try.func25 rfl Try.ntmps25 rfl rfl (HP.refl w []) ?_
  refine W.seq ?_
  refine W.region ?_
  refine WL.new rfl (E_boxA rfl (by repeat (first | exact Fit.nil | refine Fit.mk (by first | rfl | (simp; done) | (simp [iv_len]; done) | simp [iv_len, *]) ?_))) ?_; intro b5
  refine WL.as rfl rfl ?_
  refine WL.nil ?_
  refine WQ.then ?_
  refine W.seq ?_
  refine W.region ?_
  refine WL.mv rfl rfl ?_
  refine WL.mv rfl rfl ?_
  refine WL.pure (.tuple #[AG [(32, iv .u8 (List.replicate 32 0))], .int .i64 1]) rfl (by kernel_rfl) rfl (fun w hp => mac_bad _ _ _ _ _ _ w h32) ?_
  refine WL.mv rfl rfl ?_
  refine WL.val rfl (V_extract rfl rfl) ?_
  refine WL.val rfl (V_extract rfl rfl) ?_
  refine WL.new rfl (E_alloc (zs := [(32, List.replicate 32 (.int .u8 0))]) ⟨by kernel_rfl, by repeat (first | exact Fit.nil | refine Fit.mk (by first | rfl | (simp; done) | (simp [iv_len]; done) | simp [iv_len, *]) ?_)⟩) ?_; intro b7
  refine WL.storeA 32 (by kernel_rfl) rfl rfl (by first | rfl | (simp [flat]; done) | (simp [flat, iv_len]; done) | simp [flat, iv_len, *]) (by repeat (first | exact Fit.nil | refine Fit.mk (by first | rfl | (simp; done) | (simp [iv_len]; done) | simp [iv_len, *]) ?_)) (by first | (simp [flat, one]; done) | simp [flat, iv, one]) (by repeat (first | exact Upd.here _ _ | apply Upd.there)) (by rfl) ?_
  refine WL.as rfl rfl ?_
  refine WL.nil ?_
  refine WQ.then ?_
  refine W.seq ?_
  refine W.seq ?_
  refine W.region ?_
  refine WL.mv rfl rfl ?_
  refine WL.val rfl (V_neq rfl rfl) ?_
  refine WL.nil ?_
  refine WQ.then ?_
  refine W.cond_true rfl (by decide) ?_
  refine W.seq ?_
  refine W.region ?_
  refine WL.mv rfl rfl ?_
  refine WL.as rfl rfl ?_
  refine WL.nil ?_
  refine WQ.then ?_
  refine W.ret ?_
  refine WQ.then_ret ?_
  refine WQ.ret1 Try.results25 (.tmp rfl) ?_
  intro w' hp; exact ⟨rfl, hp.forget⟩

end Go.Proofs.Ytbalnjejamigaaa