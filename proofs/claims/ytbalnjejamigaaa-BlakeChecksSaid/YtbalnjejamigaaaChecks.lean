/- BlakeChecks: its walk. -/
import Derived.Test.YtbalnjejamigaaaCheck
namespace Go.Proofs.Ytbalnjejamigaaa
open Go.X
theorem flipAll : ((List.range 256).all fun x => (List.range 8).all fun k => !(xorI .u8 (x : Int) (shlI .u8 1 (k : Int)) == (x : Int))) = true := by kernel_rfl
theorem flip1 {x k : Int} (h0 : 0 ≤ x) (h1 : x ≤ 255) (k0 : 0 ≤ k) (k1 : k < 8) : xorI .u8 x (shlI .u8 1 k) ≠ x := by
  obtain ⟨x, rfl⟩ := Int.eq_ofNat_of_zero_le h0
  obtain ⟨k, rfl⟩ := Int.eq_ofNat_of_zero_le k0
  have h2 := List.all_eq_true.1 (List.all_eq_true.1 flipAll x (List.mem_range.2 (by omega))) k (List.mem_range.2 (by omega))
  simpa using h2
def badF (l : List Int) (i : Nat) (k : Int) : List Int := l.set i (xorI .u8 (l.getD i 0) (shlI .u8 1 k))
theorem badF_len {l : List Int} {i : Nat} {k : Int} : (badF l i k).length = l.length := by simp [badF]
theorem badF_bytes {l : List Int} {i : Nat} {k : Int} (h : bytes l) : bytes (badF l i k) := fun c hc => by
  rcases List.mem_or_eq_of_mem_set hc with hc | rfl
  · exact h c hc
  · unfold xorI; rw [IntKind.wrap_u8]; omega
theorem badF_ne {l : List Int} {i : Nat} {k : Int} (h : bytes l) (hi : i < l.length) (k0 : 0 ≤ k) (k1 : k < 8) : l ≠ badF l i k := fun e => by
  have e1 : l.getD i 0 = (badF l i k).getD i 0 := by rw [← e]
  rw [badF, List.getD_eq_getElem?_getD (l := l.set _ _), List.getElem?_set_self hi] at e1
  exact flip1 (h.get i).1 (h.get i).2 k0 k1 e1.symm

theorem checks_calls (A BA : Option Addr) (n kcap m bcap : Nat) (kl bl tl : List Int) (w : World) (hk : SrW w 1 A n (iv .u8 kl)) (hkb : bytes kl) (hkc : n ≤ kcap) (hn : n ≤ 9223372036854775807) (hb0 : SrW w 1 BA m (iv .u8 bl)) (hbb : bytes bl) (hbc : m ≤ bcap) (hm : m ≤ 9223372036854775807) (ht : tl.length = 32) (htb : bytes tl) (h32 : n ≤ 32) :
    Calls Try.prog 6 [.slice A n kcap, .slice BA m bcap, AG [(32, iv .u8 tl)]].toArray w fun e w' => e = .returned (.bool true) ∧ HP w w' [] [] := by
  have hml : (macF kl bl).length = 32 := macF_len
  have q0 := htb.get 0
  have q1 := htb.get 1
  have hbl : (badF (macF kl bl) (tl.getD 0 0 % 32).toNat (tl.getD 1 0 % 8)).length = 32 := by rw [badF_len, hml]
  have hne : macF kl bl ≠ (badF (macF kl bl) (tl.getD 0 0 % 32).toNat (tl.getD 1 0 % 8)) := badF_ne macF_bytes (by omega) (by omega) (by omega)
  have hbbb : bytes (badF (macF kl bl) (tl.getD 0 0 % 32).toNat (tl.getD 1 0 % 8)) := badF_bytes macF_bytes
  refine calls_of_W Try.func6 rfl Try.ntmps6 rfl rfl (HP.refl w []) ?_
  refine W.seq ?_
  refine W.region ?_
  refine WL.new rfl (E_boxA rfl (by repeat (first | exact Fit.nil | refine Fit.mk (by first | rfl | (simp; done) | (simp [iv_len]; done) | simp [iv_len, *]) ?_))) ?_; intro b5
  refine WL.as rfl rfl ?_
  refine WL.nil ?_
  refine WQ.then ?_
  refine W.seq ?_
  refine W.region ?_
  refine WL.pure _ rfl (by kernel_rfl) rfl (fun w hp => awake_calls w) ?_
  refine WL.as rfl rfl ?_
  refine WL.nil ?_
  refine WQ.then ?_
  refine W.seq ?_
  refine W.seq ?_
  refine W.region ?_
  refine WL.mv rfl rfl ?_
  refine WL.val rfl (V_lenS (by kernel_rfl) rfl) ?_
  refine WL.val rfl (V_gtr rfl rfl) ?_
  refine WL.mv rfl rfl ?_
  refine WL.splitD rfl (fun g1 => ?_) (fun g1 => ?_)
  ·
    refine WL.no rfl rfl (decide_eq_true g1) ?_
    refine WL.no rfl rfl (decide_eq_true g1) ?_
    refine WL.no rfl rfl (decide_eq_true g1) ?_
    refine WL.val rfl (V_pick_td rfl g1 rfl) ?_
    refine WL.nil ?_
    refine WQ.then ?_
    refine W.cond_true rfl rfl ?_
    refine W.seq ?_
    refine W.region ?_
    refine WL.mv rfl rfl ?_
    refine WL.as rfl rfl ?_
    refine WL.nil ?_
    refine WQ.then ?_
    refine W.ret ?_
    refine WQ.then_ret ?_
    refine WQ.ret1 Try.results6 (.tmp rfl) ?_
    intro w' hp; exact ⟨rfl, hp.forget⟩
  ·
    refine WL.yes rfl (decide_eq_false g1) ?_
    refine WL.mv rfl rfl ?_
    refine WL.yes rfl (decide_eq_false g1) ?_
    refine WL.val rfl (V_lenS (by kernel_rfl) rfl) ?_
    refine WL.yes rfl (decide_eq_false g1) ?_
    refine WL.val rfl (V_gtr rfl rfl) ?_
    refine WL.val rfl (V_pick_fd rfl g1 rfl) ?_
    refine WL.nil ?_
    refine WQ.then ?_
    refine W.cond_dec rfl (fun g2 => ?_) (fun g2 => ?_)
    ·
      refine W.seq ?_
      refine W.region ?_
      refine WL.mv rfl rfl ?_
      refine WL.as rfl rfl ?_
      refine WL.nil ?_
      refine WQ.then ?_
      refine W.ret ?_
      refine WQ.then_ret ?_
      refine WQ.ret1 Try.results6 (.tmp rfl) ?_
      intro w' hp; exact ⟨rfl, hp.forget⟩
    ·
      refine W.skip ?_
      refine WQ.then ?_
      refine W.seq ?_
      refine W.region ?_
      refine WL.mv rfl rfl ?_
      refine WL.mv rfl rfl ?_
      refine WL.pure (.tuple #[AG [(32, iv .u8 (macF kl bl))], .int .i64 0]) rfl (by kernel_rfl) rfl (fun w hp => mac_calls _ _ _ _ _ _ kl bl w (hk.old0 w hp) hkb hkc h32 (hb0.old0 w hp) hbb hbc (by omega)) ?_
      refine WL.mv rfl rfl ?_
      refine WL.val rfl (V_extract rfl rfl) ?_
      refine WL.val rfl (V_extract rfl rfl) ?_
      refine WL.new rfl (E_alloc (zs := [(32, List.replicate 32 (.int .u8 0))]) ⟨by kernel_rfl, by repeat (first | exact Fit.nil | refine Fit.mk (by first | rfl | (simp; done) | (simp [iv_len]; done) | simp [iv_len, *]) ?_)⟩) ?_; intro b8
      refine WL.storeA 32 (by kernel_rfl) rfl rfl (by first | rfl | (simp [flat]; done) | (simp [flat, iv_len]; done) | simp [flat, iv_len, *]) (by repeat (first | exact Fit.nil | refine Fit.mk (by first | rfl | (simp; done) | (simp [iv_len]; done) | simp [iv_len, *]) ?_)) (by first | (simp [flat, one]; done) | simp [flat, iv, one]) (by repeat (first | exact Upd.here _ _ | apply Upd.there)) (by rfl) ?_
      refine WL.as rfl rfl ?_
      refine WL.nil ?_
      refine WQ.then ?_
      refine W.seq ?_
      refine W.seq ?_
      refine W.region ?_
      refine WL.mv rfl rfl ?_
      refine WL.val rfl (V_neq rfl rfl) ?_
      refine WL.nil ?_
      refine WQ.then ?_
      refine W.cond_false rfl (by decide) ?_
      refine W.skip ?_
      refine WQ.then ?_
      refine W.seq ?_
      refine W.region ?_
      refine WL.val rfl (V_loadA 32 (by kernel_rfl) rfl (by repeat (first | exact At.head | exact AtW.at ‹_› (by simp) | apply At.tail)) (by rfl)) ?_
      refine WL.new rfl (E_alloc (zs := [(32, List.replicate 32 (.int .u8 0))]) ⟨by kernel_rfl, by repeat (first | exact Fit.nil | refine Fit.mk (by first | rfl | (simp; done) | (simp [iv_len]; done) | simp [iv_len, *]) ?_)⟩) ?_; intro b10
      refine WL.storeA 32 (by kernel_rfl) rfl rfl (by first | rfl | (simp [flat]; done) | (simp [flat, iv_len]; done) | simp [flat, iv_len, *]) (by repeat (first | exact Fit.nil | refine Fit.mk (by first | rfl | (simp; done) | (simp [iv_len]; done) | simp [iv_len, *]) ?_)) (by first | (simp [flat, one]; done) | simp [flat, iv, one]) (by repeat (first | exact Upd.here _ _ | apply Upd.there)) (by rfl) ?_
      refine WL.nil ?_
      refine WQ.then ?_
      refine W.seq ?_
      refine W.drawn (.q 0 (.q 1 (.q 2 (.q 3 (.q 4 (.q 6 (.q 7 (.q 8 (.q 9 (.l 5 (.q 10 (.q 11 (.l 12 (.done)))))))))))))) [(b5, _)] (by kernel_rfl) (fun _ a d _ _ h => by cases d <;> exact h) (by kernel_rfl) (by repeat (first | exact List.Sublist.refl _ | exact List.nil_sublist _ | refine List.Sublist.cons_cons _ ?_ | refine List.Sublist.cons _ ?_)) ?_
      refine WD.q rfl rfl (V_idxA1 (n := 32) (0) (by kernel_rfl) rfl rfl (by omega) (by omega)) ?_
      refine WD.q rfl rfl (V_loadIv 0 (by kernel_rfl) rfl (by repeat (first | exact At.head | exact AtW.at ‹_› (by simp) | apply At.tail)) rfl (by omega)) ?_
      refine WD.q rfl rfl (V_convN (k' := .i64) rfl (by kernel_rfl) (by kernel_rfl) (Go.IntWalk.i64_in _ (by omega))) ?_
      first | refine WD.q rfl rfl (V_remN rfl rfl (by omega) (by omega)) ?_ | refine WD.q rfl rfl (V_rem rfl rfl (by omega)) ?_
      refine WD.q rfl rfl (V_idxA1 (n := 32) ((tl.getD 0 0 % 32).toNat) (by kernel_rfl) rfl rfl (by omega) (by omega)) ?_
      refine WD.q rfl rfl (V_idxA1 (n := 32) (1) (by kernel_rfl) rfl rfl (by omega) (by omega)) ?_
      refine WD.q rfl rfl (V_loadIv 1 (by kernel_rfl) rfl (by repeat (first | exact At.head | exact AtW.at ‹_› (by simp) | apply At.tail)) rfl (by omega)) ?_
      first | refine WD.q rfl rfl (V_remN rfl rfl (by omega) (by omega)) ?_ | refine WD.q rfl rfl (V_rem rfl rfl (by omega)) ?_
      refine WD.q rfl rfl (V_shl rfl rfl (by omega)) ?_
      refine WD.l ?_
      refine WO.val rfl rfl (by repeat (first | exact List.Sublist.refl _ | exact List.nil_sublist _ | refine List.Sublist.cons_cons _ ?_ | refine List.Sublist.cons _ ?_)) (V_loadIv (tl.getD 0 0 % 32).toNat (by kernel_rfl) rfl (by repeat (first | exact At.head | exact AtW.at ‹_› (by simp) | apply At.tail)) rfl (by omega)) ?_
      refine WD.q rfl rfl (V_xor rfl rfl) ?_
      refine WD.q rfl rfl (V_idxA1 (n := 32) ((tl.getD 0 0 % 32).toNat) (by kernel_rfl) rfl rfl (by omega) (by omega)) ?_
      refine WD.l ?_
      refine WO.eff rfl rfl (by repeat (first | exact List.Sublist.refl _ | exact List.nil_sublist _ | refine List.Sublist.cons_cons _ ?_ | refine List.Sublist.cons _ ?_)) (E_storeIv (tl.getD 0 0 % 32).toNat (by kernel_rfl) rfl rfl (by repeat (first | exact Upd.here _ _ | apply Upd.there)) rfl (by omega)) ?_; rintro _ _ ⟨rfl, rfl⟩; refine ⟨by simp, ?_⟩; rw [show (macF kl bl).set _ _ = badF (macF kl bl) (tl.getD 0 0 % 32).toNat (tl.getD 1 0 % 8) from rfl]
      refine WD.done ?_
      refine WQ.then ?_
      refine W.seq ?_
      refine W.region ?_
      refine WL.as rfl rfl ?_
      refine WL.nil ?_
      refine WQ.then ?_
      refine W.seq ?_
      refine W.seq ?_
      refine W.region ?_
      refine WL.val rfl (V_loadA 32 (by kernel_rfl) rfl (by repeat (first | exact At.head | exact AtW.at ‹_› (by simp) | apply At.tail)) (by rfl)) ?_
      refine WL.val rfl (V_loadA 32 (by kernel_rfl) rfl (by repeat (first | exact At.head | exact AtW.at ‹_› (by simp) | apply At.tail)) (by rfl)) ?_
      refine WL.val rfl ((V_eqlI 3 32 .u8 (by decide) (by kernel_rfl) (by kernel_rfl) (by kernel_rfl) rfl rfl (by first | assumption | rfl) (by first | assumption | rfl))) ?_
      refine WL.nil ?_
      refine WQ.then ?_
      refine W.cond rfl (fun g3 => ?_) (fun g3 => ?_)
      ·
        refine W.region ?_
        refine WL.as rfl rfl ?_
        refine WL.nil ?_
        refine WQ.then ?_
        refine W.seq ?_
        refine W.region ?_
        refine WL.mv rfl rfl ?_
        refine WL.mv rfl rfl ?_
        refine WL.yes rfl rfl ?_
        refine WL.mv rfl rfl ?_
        refine WL.yes rfl rfl ?_
        refine WL.mv rfl rfl ?_
        refine WL.yes rfl rfl ?_
        refine WL.val rfl (V_loadA 32 (by kernel_rfl) rfl (by repeat (first | exact At.head | exact AtW.at ‹_› (by simp) | apply At.tail)) (by rfl)) ?_
        refine WL.yes rfl rfl ?_
        refine WL.pure (.int .i64 (if macF kl bl = macF kl bl then 0 else 4)) rfl (by kernel_rfl) rfl (fun w hp => check_calls _ _ _ _ _ _ kl bl (macF kl bl) w (hk.old0 w hp) hkb hkc h32 (hb0.old0 w hp) hbb hbc (by omega) hml macF_bytes) ?_
        refine WL.yes rfl rfl ?_
        refine WL.val rfl (V_eql rfl rfl) ?_
        refine WL.val rfl (V_pick_t rfl rfl rfl) ?_
        refine WL.mv rfl rfl ?_
        refine WL.yes rfl (by simp) ?_
        refine WL.mv rfl rfl ?_
        refine WL.yes rfl (by simp) ?_
        refine WL.mv rfl rfl ?_
        refine WL.yes rfl (by simp) ?_
        refine WL.val rfl (V_loadA 32 (by kernel_rfl) rfl (by repeat (first | exact At.head | exact AtW.at ‹_› (by simp) | apply At.tail)) (by rfl)) ?_
        refine WL.yes rfl (by simp) ?_
        refine WL.pure (.int .i64 (if macF kl bl = (badF (macF kl bl) (tl.getD 0 0 % 32).toNat (tl.getD 1 0 % 8)) then 0 else 4)) rfl (by kernel_rfl) rfl (fun w hp => check_calls _ _ _ _ _ _ kl bl ((badF (macF kl bl) (tl.getD 0 0 % 32).toNat (tl.getD 1 0 % 8))) w (hk.old0 w hp) hkb hkc h32 (hb0.old0 w hp) hbb hbc (by omega) hbl hbbb) ?_
        refine WL.yes rfl (by simp) ?_
        refine WL.val rfl (V_eql rfl rfl) ?_
        refine WL.val rfl (V_pick_t rfl (by simp) rfl) ?_
        refine WL.mv rfl rfl ?_
        refine WL.yes rfl (by rw [if_neg hne]; rfl) ?_
        refine WL.mv rfl rfl ?_
        refine WL.yes rfl (by rw [if_neg hne]; rfl) ?_
        refine WL.mv rfl rfl ?_
        refine WL.yes rfl (by rw [if_neg hne]; rfl) ?_
        refine WL.val rfl (V_loadA 32 (by kernel_rfl) rfl (by repeat (first | exact At.head | exact AtW.at ‹_› (by simp) | apply At.tail)) (by rfl)) ?_
        refine WL.yes rfl (by rw [if_neg hne]; rfl) ?_
        refine WL.pure (.int .i64 (if macF kl bl = tl then 0 else 4)) rfl (by kernel_rfl) rfl (fun w hp => check_calls _ _ _ _ _ _ kl bl (tl) w (hk.old0 w hp) hkb hkc h32 (hb0.old0 w hp) hbb hbc (by omega) ht htb) ?_
        refine WL.yes rfl (by rw [if_neg hne]; rfl) ?_
        refine WL.mv rfl rfl ?_
        refine WL.yes rfl (by rw [if_neg hne]; rfl) ?_
        refine WL.val rfl (V_eql rfl rfl) ?_
        refine WL.val rfl (V_pick_t rfl (by rw [if_neg hne]; rfl) rfl) ?_
        refine WL.as rfl rfl ?_
        refine WL.nil ?_
        refine WQ.then ?_
        refine W.ret ?_
        refine WQ.ret1 Try.results6 (.tmp rfl) ?_
        intro w' hp; refine ⟨?_, hp.forget⟩; have g9 := g3; simp at g9; first | (subst g9; simp; done) | (rw [if_neg (fun h => g9 h.symm)]; rfl)
      ·
        refine W.skip ?_
        refine WQ.then ?_
        refine W.seq ?_
        refine W.region ?_
        refine WL.mv rfl rfl ?_
        refine WL.mv rfl rfl ?_
        refine WL.yes rfl rfl ?_
        refine WL.mv rfl rfl ?_
        refine WL.yes rfl rfl ?_
        refine WL.mv rfl rfl ?_
        refine WL.yes rfl rfl ?_
        refine WL.val rfl (V_loadA 32 (by kernel_rfl) rfl (by repeat (first | exact At.head | exact AtW.at ‹_› (by simp) | apply At.tail)) (by rfl)) ?_
        refine WL.yes rfl rfl ?_
        refine WL.pure (.int .i64 (if macF kl bl = macF kl bl then 0 else 4)) rfl (by kernel_rfl) rfl (fun w hp => check_calls _ _ _ _ _ _ kl bl (macF kl bl) w (hk.old0 w hp) hkb hkc h32 (hb0.old0 w hp) hbb hbc (by omega) hml macF_bytes) ?_
        refine WL.yes rfl rfl ?_
        refine WL.val rfl (V_eql rfl rfl) ?_
        refine WL.val rfl (V_pick_t rfl rfl rfl) ?_
        refine WL.mv rfl rfl ?_
        refine WL.yes rfl (by simp) ?_
        refine WL.mv rfl rfl ?_
        refine WL.yes rfl (by simp) ?_
        refine WL.mv rfl rfl ?_
        refine WL.yes rfl (by simp) ?_
        refine WL.val rfl (V_loadA 32 (by kernel_rfl) rfl (by repeat (first | exact At.head | exact AtW.at ‹_› (by simp) | apply At.tail)) (by rfl)) ?_
        refine WL.yes rfl (by simp) ?_
        refine WL.pure (.int .i64 (if macF kl bl = (badF (macF kl bl) (tl.getD 0 0 % 32).toNat (tl.getD 1 0 % 8)) then 0 else 4)) rfl (by kernel_rfl) rfl (fun w hp => check_calls _ _ _ _ _ _ kl bl ((badF (macF kl bl) (tl.getD 0 0 % 32).toNat (tl.getD 1 0 % 8))) w (hk.old0 w hp) hkb hkc h32 (hb0.old0 w hp) hbb hbc (by omega) hbl hbbb) ?_
        refine WL.yes rfl (by simp) ?_
        refine WL.val rfl (V_eql rfl rfl) ?_
        refine WL.val rfl (V_pick_t rfl (by simp) rfl) ?_
        refine WL.mv rfl rfl ?_
        refine WL.yes rfl (by rw [if_neg hne]; rfl) ?_
        refine WL.mv rfl rfl ?_
        refine WL.yes rfl (by rw [if_neg hne]; rfl) ?_
        refine WL.mv rfl rfl ?_
        refine WL.yes rfl (by rw [if_neg hne]; rfl) ?_
        refine WL.val rfl (V_loadA 32 (by kernel_rfl) rfl (by repeat (first | exact At.head | exact AtW.at ‹_› (by simp) | apply At.tail)) (by rfl)) ?_
        refine WL.yes rfl (by rw [if_neg hne]; rfl) ?_
        refine WL.pure (.int .i64 (if macF kl bl = tl then 0 else 4)) rfl (by kernel_rfl) rfl (fun w hp => check_calls _ _ _ _ _ _ kl bl (tl) w (hk.old0 w hp) hkb hkc h32 (hb0.old0 w hp) hbb hbc (by omega) ht htb) ?_
        refine WL.yes rfl (by rw [if_neg hne]; rfl) ?_
        refine WL.mv rfl rfl ?_
        refine WL.yes rfl (by rw [if_neg hne]; rfl) ?_
        refine WL.val rfl (V_eql rfl rfl) ?_
        refine WL.val rfl (V_pick_t rfl (by rw [if_neg hne]; rfl) rfl) ?_
        refine WL.as rfl rfl ?_
        refine WL.nil ?_
        refine WQ.then ?_
        refine W.ret ?_
        refine WQ.ret1 Try.results6 (.tmp rfl) ?_
        intro w' hp; refine ⟨?_, hp.forget⟩; have g9 := g3; simp at g9; first | (subst g9; simp; done) | (rw [if_neg (fun h => g9 h.symm)]; rfl)

theorem checks_callsBad (A BA : Option Addr) (n kcap m bcap : Nat) (kl bl tl : List Int) (w : World) (hk : SrW w 1 A n (iv .u8 kl)) (hkb : bytes kl) (hkc : n ≤ kcap) (hn : n ≤ 9223372036854775807) (hb0 : SrW w 1 BA m (iv .u8 bl)) (hbb : bytes bl) (hbc : m ≤ bcap) (hm : m ≤ 9223372036854775807) (ht : tl.length = 32) (htb : bytes tl) (h32 : 32 < n) :
    Calls Try.prog 6 [.slice A n kcap, .slice BA m bcap, AG [(32, iv .u8 tl)]].toArray w fun e w' => e = .returned (.bool true) ∧ HP w w' [] [] := by
  have hrl : (List.replicate 32 (0 : Int)).length = 32 := rfl
  refine calls_of_W Try.func6 rfl Try.ntmps6 rfl rfl (HP.refl w []) ?_
  refine W.seq ?_
  refine W.region ?_
  refine WL.new rfl (E_boxA rfl (by repeat (first | exact Fit.nil | refine Fit.mk (by first | rfl | (simp; done) | (simp [iv_len]; done) | simp [iv_len, *]) ?_))) ?_; intro b5
  refine WL.as rfl rfl ?_
  refine WL.nil ?_
  refine WQ.then ?_
  refine W.seq ?_
  refine W.region ?_
  refine WL.pure _ rfl (by kernel_rfl) rfl (fun w hp => awake_calls w) ?_
  refine WL.as rfl rfl ?_
  refine WL.nil ?_
  refine WQ.then ?_
  refine W.seq ?_
  refine W.seq ?_
  refine W.region ?_
  refine WL.mv rfl rfl ?_
  refine WL.val rfl (V_lenS (by kernel_rfl) rfl) ?_
  refine WL.val rfl (V_gtr rfl rfl) ?_
  refine WL.mv rfl rfl ?_
  refine WL.splitD rfl (fun g1 => ?_) (fun g1 => ?_)
  ·
    refine WL.no rfl rfl (decide_eq_true g1) ?_
    refine WL.no rfl rfl (decide_eq_true g1) ?_
    refine WL.no rfl rfl (decide_eq_true g1) ?_
    refine WL.val rfl (V_pick_td rfl g1 rfl) ?_
    refine WL.nil ?_
    refine WQ.then ?_
    refine W.cond_true rfl rfl ?_
    refine W.seq ?_
    refine W.region ?_
    refine WL.mv rfl rfl ?_
    refine WL.as rfl rfl ?_
    refine WL.nil ?_
    refine WQ.then ?_
    refine W.ret ?_
    refine WQ.then_ret ?_
    refine WQ.ret1 Try.results6 (.tmp rfl) ?_
    intro w' hp; exact ⟨rfl, hp.forget⟩
  ·
    refine WL.yes rfl (decide_eq_false g1) ?_
    refine WL.mv rfl rfl ?_
    refine WL.yes rfl (decide_eq_false g1) ?_
    refine WL.val rfl (V_lenS (by kernel_rfl) rfl) ?_
    refine WL.yes rfl (decide_eq_false g1) ?_
    refine WL.val rfl (V_gtr rfl rfl) ?_
    refine WL.val rfl (V_pick_fd rfl g1 rfl) ?_
    refine WL.nil ?_
    refine WQ.then ?_
    refine W.cond_dec rfl (fun g2 => ?_) (fun g2 => ?_)
    ·
      refine W.seq ?_
      refine W.region ?_
      refine WL.mv rfl rfl ?_
      refine WL.as rfl rfl ?_
      refine WL.nil ?_
      refine WQ.then ?_
      refine W.ret ?_
      refine WQ.then_ret ?_
      refine WQ.ret1 Try.results6 (.tmp rfl) ?_
      intro w' hp; exact ⟨rfl, hp.forget⟩
    ·
      refine W.skip ?_
      refine WQ.then ?_
      refine W.seq ?_
      refine W.region ?_
      refine WL.mv rfl rfl ?_
      refine WL.mv rfl rfl ?_
      refine WL.pure (.tuple #[AG [(32, iv .u8 (List.replicate 32 0))], .int .i64 1]) rfl (by kernel_rfl) rfl (fun w hp => mac_bad _ _ _ _ _ _ w h32) ?_
      refine WL.mv rfl rfl ?_
      refine WL.val rfl (V_extract rfl rfl) ?_
      refine WL.val rfl (V_extract rfl rfl) ?_
      refine WL.new rfl (E_alloc (zs := [(32, List.replicate 32 (.int .u8 0))]) ⟨by kernel_rfl, by repeat (first | exact Fit.nil | refine Fit.mk (by first | rfl | (simp; done) | (simp [iv_len]; done) | simp [iv_len, *]) ?_)⟩) ?_; intro b8
      refine WL.storeA 32 (by kernel_rfl) rfl rfl (by first | rfl | (simp [flat]; done) | (simp [flat, iv_len]; done) | simp [flat, iv_len, *]) (by repeat (first | exact Fit.nil | refine Fit.mk (by first | rfl | (simp; done) | (simp [iv_len]; done) | simp [iv_len, *]) ?_)) (by first | (simp [flat, one]; done) | simp [flat, iv, one]) (by repeat (first | exact Upd.here _ _ | apply Upd.there)) (by rfl) ?_
      refine WL.as rfl rfl ?_
      refine WL.nil ?_
      refine WQ.then ?_
      refine W.seq ?_
      refine W.seq ?_
      refine W.region ?_
      refine WL.mv rfl rfl ?_
      refine WL.val rfl (V_neq rfl rfl) ?_
      refine WL.nil ?_
      refine WQ.then ?_
      refine W.cond_true rfl (by decide) ?_
      refine W.seq ?_
      refine W.region ?_
      refine WL.mv rfl rfl ?_
      refine WL.mv rfl rfl ?_
      refine WL.yes rfl rfl ?_
      refine WL.mv rfl rfl ?_
      refine WL.yes rfl rfl ?_
      refine WL.val rfl (V_lenS (by kernel_rfl) rfl) ?_
      refine WL.yes rfl rfl ?_
      refine WL.val rfl (V_gtr rfl rfl) ?_
      refine WL.val rfl (V_pick_t rfl rfl rfl) ?_
      refine WL.mv rfl rfl ?_
      refine WL.yes rfl (decide_eq_true (by omega)) ?_
      refine WL.mv rfl rfl ?_
      refine WL.yes rfl (decide_eq_true (by omega)) ?_
      refine WL.mv rfl rfl ?_
      refine WL.yes rfl (decide_eq_true (by omega)) ?_
      refine WL.val rfl (V_loadA 32 (by kernel_rfl) rfl (by repeat (first | exact At.head | exact AtW.at ‹_› (by simp) | apply At.tail)) (by rfl)) ?_
      refine WL.yes rfl (decide_eq_true (by omega)) ?_
      refine WL.pure (.int .i64 1) rfl (by kernel_rfl) rfl (fun w hp => check_bad _ _ _ _ _ _ tl w h32 ht) ?_
      refine WL.yes rfl (decide_eq_true (by omega)) ?_
      refine WL.val rfl (V_eql rfl rfl) ?_
      refine WL.val rfl (V_pick_t rfl (decide_eq_true (by omega)) rfl) ?_
      refine WL.mv rfl rfl ?_
      refine WL.yes rfl (by decide) ?_
      refine WL.val rfl (V_loadA 32 (by kernel_rfl) rfl (by repeat (first | exact At.head | exact AtW.at ‹_› (by simp) | apply At.tail)) (by rfl)) ?_
      refine WL.yes rfl (by decide) ?_
      refine WL.val rfl (V_buildA (zs := [(32, List.replicate 32 (.int .u8 0))]) 32 1 (by kernel_rfl) ⟨by kernel_rfl, by repeat (first | exact Fit.nil | refine Fit.mk (by first | rfl | (simp; done) | (simp [iv_len]; done) | simp [iv_len, *]) ?_)⟩ (.nil _)) ?_
      rw [show List.replicate 32 (Value.int .u8 0) = iv .u8 (List.replicate 32 0) from rfl]
      refine WL.yes rfl (by decide) ?_
      refine WL.val rfl ((V_eqlI 3 32 .u8 (by decide) (by kernel_rfl) (by kernel_rfl) (by kernel_rfl) rfl rfl (by first | assumption | rfl) (by first | assumption | rfl))) ?_
      refine WL.val rfl (V_pick_t rfl (by decide) rfl) ?_
      refine WL.as rfl rfl ?_
      refine WL.nil ?_
      refine WQ.then ?_
      refine W.ret ?_
      refine WQ.then_ret ?_
      refine WQ.ret1 Try.results6 (.tmp rfl) ?_
      intro w' hp; refine ⟨by simp, hp.forget⟩

end Go.Proofs.Ytbalnjejamigaaa