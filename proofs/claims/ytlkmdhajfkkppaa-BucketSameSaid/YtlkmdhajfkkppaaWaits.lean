/- BucketWaits: its walk. -/
import Derived.Test.YtlkmdhajfkkppaaFew
namespace Go.Proofs.Ytlkmdhajfkkppaa
open Go.X
theorem lvF_now {m e n now : Int} : lvF m e now n now = min m n := by unfold lvF; rw [Int.sub_self, Int.add_zero]
theorem waits0 {m e f : Int} (h : mayB m e) (h0 : 0 ≤ f) (h1 : f ≤ 10000) : takeT 0 f = f ∧ lvF m e f (takeN m e 0 m f) (f + m * e) = m := by
  have F := step_facts h.ok h0 (by omega : f ≤ 1000000)
  obtain ⟨m1, m2, e1, e2⟩ := h
  have hd : (f + m * e) / e = f / e + m := Int.add_mul_ediv_right _ _ (by omega)
  have hl : hasF m e 0 m f = m := by
    unfold hasF lvF; rw [if_neg (by omega)]
    have : 0 ≤ f / e := Int.ediv_nonneg h0 (by omega)
    rw [Int.zero_ediv]; omega
  refine ⟨F.2.2.2.1, ?_⟩
  unfold lvF; rw [hd]; omega
theorem waits1 {m e t n N i : Int} (h : OkB m e t n) (h1 : t ≤ N) (h2 : N ≤ 1000000) (hl : lvF m e t n N = m - i) (hi : 0 ≤ i) (hi1 : i < m) :
    takeE m e t n N = 0 ∧ takeT t N = N ∧ lvF m e N (takeN m e t n N) N = m - (i + 1) := by
  have F := step_facts h h1 h2
  have hh : hasF m e t n N = m - i := by unfold hasF; rw [if_neg (by omega), hl]
  rw [lvF_now]; omega
theorem waits2 {m e N n : Int} (h : OkB m e N n) (h1 : 1 ≤ N) (h2 : N ≤ 1000000) (hl : lvF m e N n N = m - m) :
    takeE m e N n N = 10 ∧ takeE m e (takeT N N) (takeN m e N n N) (N - 1) = 5 ∧ hasF m e (takeT (takeT N N) (N - 1)) (takeN m e (takeT N N) (takeN m e N n N) (N - 1)) (N - 1) = 0 ∧ hasF m e (takeT (takeT N N) (N - 1)) (takeN m e (takeT N N) (takeN m e N n N) (N - 1)) N = 0 := by
  have F := step_facts h (Int.le_refl N) h2
  have hh : hasF m e N n N = 0 := by unfold hasF; rw [if_neg (by omega), hl]; omega
  have h3 := h.m1
  have e1 : takeN m e N n N = 0 := by omega
  have e2 : takeT N (N - 1) = N := by unfold takeT; rw [if_neg (by omega), if_pos (by omega)]
  have e3 : takeN m e N 0 (N - 1) = 0 := by unfold takeN; rw [if_neg (by omega), if_pos (by omega)]
  rw [F.2.2.2.1, e1, e2, e3]
  refine ⟨by omega, ?_, ?_, ?_⟩
  · unfold takeE; rw [if_neg (by omega), if_pos (by omega)]
  · unfold hasF; rw [if_pos (by omega)]
  · unfold hasF; rw [if_neg (by omega), lvF_now]; omega
theorem bounds {m e f : Int} (h : mayB m e) (hm : m ≤ 100) : f + 1 ≤ f + m * e ∧ f + m * e ≤ f + 100000 ∧ 1 ≤ m * e ∧ m * e ≤ 100000 := by
  obtain ⟨m1, m2, e1, e2⟩ := h
  have h1 : m * e ≤ 100 * 1000 := Int.mul_le_mul hm e2 (by omega) (by omega)
  have h2 : 1 * 1 ≤ m * e := Int.mul_le_mul m1 e1 (by omega) (by omega)
  omega

theorem waits_calls (most every frm : Int) (w : World) (hf : -9223372036854775808 ≤ frm ∧ frm ≤ 9223372036854775807) (hm : mayB most every) :
    Calls Try.prog 5 [.int .i64 most, .int .i64 every, .int .i64 frm].toArray w fun e w' => e = .returned (.bool true) ∧ HP w w' [] [] := by
  refine calls_of_W Try.func5 rfl Try.ntmps5 rfl rfl (HP.refl w []) ?_
  refine W.seq ?_
  refine W.region ?_
  refine WL.as rfl rfl ?_
  refine WL.nil ?_
  refine WQ.then ?_
  refine W.seq ?_
  refine W.region ?_
  refine WL.pure _ rfl (by kernel_rfl) rfl (fun w hp => awake_calls w) ?_
  refine WL.as rfl rfl ?_
  refine WL.nil ?_
  refine WQ.then ?_
  refine W.seq ?_
  refine W.region ?_
  refine WL.mv rfl rfl ?_
  refine WL.mv rfl rfl ?_
  refine WL.call [] (fun r => .tuple #[.pointer (some ⟨r, 0, none⟩), .int .i64 0]) (fun r => [(r, .cells (bkt most every 0 most) 43)]) (fun _ => True) rfl (by kernel_rfl) rfl (.nil _) (fun w hp => new_calls most every w hm) ?_; intro b17 _
  refine WL.mv rfl rfl ?_
  refine WL.val rfl (V_extract rfl rfl) ?_
  refine WL.val rfl (V_extract rfl rfl) ?_
  refine WL.as rfl rfl ?_
  refine WL.as rfl rfl ?_
  refine WL.nil ?_
  refine WQ.then ?_
  refine W.seq ?_
  refine W.seq ?_
  refine W.region ?_
  refine WL.mv rfl rfl ?_
  refine WL.val rfl (V_eqlP (by kernel_rfl) rfl rfl) ?_
  refine WL.mv rfl rfl ?_
  refine WL.yes rfl rfl ?_
  refine WL.mv rfl rfl ?_
  refine WL.yes rfl rfl ?_
  refine WL.val rfl (V_neq rfl rfl) ?_
  refine WL.val rfl (V_pick_f rfl rfl rfl) ?_
  refine WL.mv rfl rfl ?_
  refine WL.yes rfl (by decide) ?_
  refine WL.mv rfl rfl ?_
  refine WL.yes rfl (by decide) ?_
  refine WL.val rfl (V_gtr rfl rfl) ?_
  refine WL.val rfl (V_pick_f rfl (by decide) rfl) ?_
  refine WL.mv rfl rfl ?_
  refine WL.splitD rfl (fun g1 => ?_) (fun g1 => ?_)
  ·
    refine WL.no rfl rfl (decide_eq_true g1) ?_
    refine WL.no rfl rfl (decide_eq_true g1) ?_
    refine WL.val rfl (V_pick_td rfl g1 rfl) ?_
    refine WL.mv rfl rfl ?_
    refine WL.no rfl rfl rfl ?_
    refine WL.no rfl rfl rfl ?_
    refine WL.val rfl (V_pick_t rfl rfl rfl) ?_
    refine WL.nil ?_
    refine WQ.then ?_
    refine W.cond_true rfl rfl ?_
    refine W.seq ?_
    refine W.region ?_
    refine WL.mv rfl rfl ?_
    refine WL.mv rfl rfl ?_
    refine WL.yes rfl rfl ?_
    refine WL.mv rfl rfl ?_
    refine WL.yes rfl rfl ?_
    refine WL.val rfl (V_eql rfl rfl) ?_
    refine WL.yes rfl rfl ?_
    refine WL.mv rfl rfl ?_
    refine WL.yes rfl rfl ?_
    refine WL.val rfl (V_neqP (by kernel_rfl) rfl rfl) ?_
    refine WL.yes rfl rfl ?_
    refine WL.val rfl (V_eqlB (by kernel_rfl) rfl rfl) ?_
    refine WL.val rfl (V_pick_t rfl rfl rfl) ?_
    refine WL.as rfl rfl ?_
    refine WL.nil ?_
    refine WQ.then ?_
    refine W.ret ?_
    refine WQ.then_ret ?_
    refine WQ.ret1 Try.results5 (.tmp rfl) ?_
    intro w' hp; exact ⟨rfl, hp.forget⟩
  ·
    refine WL.yes rfl (decide_eq_false g1) ?_
    refine WL.mv rfl rfl ?_
    refine WL.yes rfl (decide_eq_false g1) ?_
    refine WL.val rfl (V_lss rfl rfl) ?_
    refine WL.val rfl (V_pick_fd rfl g1 rfl) ?_
    refine WL.mv rfl rfl ?_
    refine WL.splitD rfl (fun g2 => ?_) (fun g2 => ?_)
    ·
      refine WL.no rfl rfl (decide_eq_true g2) ?_
      refine WL.no rfl rfl (decide_eq_true g2) ?_
      refine WL.val rfl (V_pick_td rfl g2 rfl) ?_
      refine WL.nil ?_
      refine WQ.then ?_
      refine W.cond_true rfl rfl ?_
      refine W.seq ?_
      refine W.region ?_
      refine WL.mv rfl rfl ?_
      refine WL.mv rfl rfl ?_
      refine WL.yes rfl rfl ?_
      refine WL.mv rfl rfl ?_
      refine WL.yes rfl rfl ?_
      refine WL.val rfl (V_eql rfl rfl) ?_
      refine WL.yes rfl rfl ?_
      refine WL.mv rfl rfl ?_
      refine WL.yes rfl rfl ?_
      refine WL.val rfl (V_neqP (by kernel_rfl) rfl rfl) ?_
      refine WL.yes rfl rfl ?_
      refine WL.val rfl (V_eqlB (by kernel_rfl) rfl rfl) ?_
      refine WL.val rfl (V_pick_t rfl rfl rfl) ?_
      refine WL.as rfl rfl ?_
      refine WL.nil ?_
      refine WQ.then ?_
      refine W.ret ?_
      refine WQ.then_ret ?_
      refine WQ.ret1 Try.results5 (.tmp rfl) ?_
      intro w' hp; exact ⟨rfl, hp.forget⟩
    ·
      refine WL.yes rfl (decide_eq_false g2) ?_
      refine WL.mv rfl rfl ?_
      refine WL.yes rfl (decide_eq_false g2) ?_
      refine WL.val rfl (V_gtr rfl rfl) ?_
      refine WL.val rfl (V_pick_fd rfl g2 rfl) ?_
      refine WL.nil ?_
      refine WQ.then ?_
      refine W.cond_dec rfl (fun g3 => ?_) (fun g3 => ?_)
      ·
        refine W.seq ?_
        refine W.region ?_
        refine WL.mv rfl rfl ?_
        refine WL.mv rfl rfl ?_
        refine WL.yes rfl rfl ?_
        refine WL.mv rfl rfl ?_
        refine WL.yes rfl rfl ?_
        refine WL.val rfl (V_eql rfl rfl) ?_
        refine WL.yes rfl rfl ?_
        refine WL.mv rfl rfl ?_
        refine WL.yes rfl rfl ?_
        refine WL.val rfl (V_neqP (by kernel_rfl) rfl rfl) ?_
        refine WL.yes rfl rfl ?_
        refine WL.val rfl (V_eqlB (by kernel_rfl) rfl rfl) ?_
        refine WL.val rfl (V_pick_t rfl rfl rfl) ?_
        refine WL.as rfl rfl ?_
        refine WL.nil ?_
        refine WQ.then ?_
        refine W.ret ?_
        refine WQ.then_ret ?_
        refine WQ.ret1 Try.results5 (.tmp rfl) ?_
        intro w' hp; exact ⟨rfl, hp.forget⟩
      ·
        refine W.skip ?_
        refine WQ.then ?_
        refine W.seq ?_
        refine W.region ?_
        refine WL.mv rfl rfl ?_
        refine WL.mv rfl rfl ?_
        have hb := bounds (f := frm) hm (by omega); have hw0 := waits0 hm (f := frm) (by omega) (by omega); have hN0 : 0 ≤ frm ∧ frm ≤ 10000 := by omega
        refine WL.mod _ rfl (by kernel_rfl) rfl (by repeat (first | exact Upd.here _ _ | apply Upd.there)) (fun w hp => take_calls b17 most every 0 most _ 43 w (hp.held (b17, .cells (bkt most every 0 most) 43) (by simp)) hm.ok) ?_
        refine WL.nil ?_
        refine WQ.then ?_
        refine W.seq ?_
        refine W.region ?_
        refine WL.mv rfl rfl ?_
        refine WL.mv rfl rfl ?_
        refine WL.mv rfl rfl ?_
        first | refine WL.val rfl (V_mulN rfl rfl (by omega)) ?_ | refine WL.val rfl (V_mul rfl rfl) ?_
        first | refine WL.val rfl (V_addN rfl rfl (by omega)) ?_ | refine WL.val rfl (V_add rfl rfl) ?_
        refine WL.as rfl rfl ?_
        refine WL.nil ?_
        refine WQ.then ?_
        refine W.seq ?_
        refine W.seq ?_
        refine W.region ?_
        refine WL.as rfl rfl ?_
        refine WL.nil ?_
        refine WQ.then ?_
        refine W.block ?_
        -- LOOP
        rw [hw0.1]
        obtain ⟨N, hN⟩ : ∃ N, N = frm + most * every := ⟨_, rfl⟩
        rw [← hN] at hw0 ⊢
        refine W.pick [0, 7, 8, 10, 11] rfl ?_
        refine W.loop (σ := Int × Int × Int) (fun s => 0 ≤ s.1 ∧ s.1 ≤ most ∧ OkB most every s.2.1 s.2.2 ∧ s.2.1 ≤ N ∧ lvF most every s.2.1 s.2.2 N = most - s.1 ∧ (1 ≤ s.1 → s.2.1 = N)) (fun s => [(0, .int .i64 most), (7, .bool true), (8, .pointer (some ⟨b17, 0, none⟩)), (10, .int .i64 N), (11, .int .i64 s.1)]) (fun s => [(b17, .cells (bkt most every s.2.1 s.2.2) 43)]) (fun s => (most - s.1).toNat) (0, frm, takeN most every 0 most frm) rfl rfl ⟨by simp, by have := hm.1; simp; omega, by have := hm.ok.take frm; rwa [hw0.1] at this, by simp; omega, by simpa using hw0.2, by simp⟩ ?_
        rintro ⟨i, t, n⟩ ⟨h0i, hin, hk, htN, hlv, hNt⟩; dsimp only at h0i hin hk htN hlv hNt ⊢
        refine W.seq ?_
        refine W.seq ?_
        refine W.region ?_
        refine WL.mv rfl rfl ?_
        refine WL.mv rfl rfl ?_
        refine WL.val rfl (V_lss rfl rfl) ?_
        refine WL.nil ?_
        refine WQ.then ?_
        refine W.cond_dec rfl (fun g4 => ?_) (fun g4 => ?_)
        ·
          refine W.skip ?_
          refine WQ.then ?_
          refine W.seq ?_
          refine W.block ?_
          refine W.seq ?_
          refine W.region ?_
          refine WL.mv rfl rfl ?_
          refine WL.mv rfl rfl ?_
          refine WL.mod _ rfl (by kernel_rfl) rfl (by repeat (first | exact Upd.here _ _ | apply Upd.there)) (fun w hp => take_calls b17 most every t n _ 43 w (hp.held (b17, .cells (bkt most every t n) 43) (by simp)) hk) ?_
          have F := waits1 hk htN (by omega) hlv h0i (by omega)
          refine WL.val rfl (V_neq rfl rfl) ?_
          refine WL.nil ?_
          refine WQ.then ?_
          refine W.cond_false rfl (decide_eq_false (by omega)) ?_
          refine W.skip ?_
          refine WQ.block_normal ?_
          refine WQ.then ?_
          refine W.region ?_
          refine WL.mv rfl rfl ?_
          first | refine WL.val rfl (V_addN rfl rfl (by omega)) ?_ | refine WL.val rfl (V_add rfl rfl) ?_
          refine WL.as rfl rfl ?_
          refine WL.nil ?_
          exact WQ.again (i + 1, takeT t N, takeN most every t n N) [0, 7, 8, 10, 11] (by refine ⟨by omega, by omega, hk.take _, ?_⟩; rw [F.2.1]; exact ⟨by simp, F.2.2, fun _ => rfl⟩) (by show (most - (i + 1)).toNat < (most - i).toNat; omega) rfl (by repeat (first | exact List.Sublist.refl _ | exact List.nil_sublist _ | refine List.Sublist.cons_cons _ ?_ | refine List.Sublist.cons _ ?_))
        ·
          refine W.exit ?_
          refine WQ.then_exit ?_
          refine WQ.then_exit ?_
          refine WQ.block_hit ?_
          refine WQ.then ?_
          refine W.seq ?_
          refine W.region ?_
          obtain rfl : most = i := by omega
          obtain rfl : N = t := (hNt (by have := hm.1; omega)).symm
          have E1 := waits2 hk (by omega) (by omega) hlv
          refine WL.mv rfl rfl ?_
          refine WL.mv rfl rfl ?_
          refine WL.yes rfl rfl ?_
          refine WL.mv rfl rfl ?_
          refine WL.yes rfl rfl ?_
          refine WL.mv rfl rfl ?_
          refine WL.yes rfl rfl ?_
          refine WL.mod _ rfl (by kernel_rfl) rfl (by repeat (first | exact Upd.here _ _ | apply Upd.there)) (fun w hp => take_calls b17 most every N n _ 43 w (hp.held (b17, .cells (bkt most every N n) 43) (by simp)) hk) ?_
          refine WL.yes rfl rfl ?_
          refine WL.val rfl (V_eql rfl rfl) ?_
          refine WL.val rfl (V_pick_t rfl rfl rfl) ?_
          refine WL.mv rfl rfl ?_
          refine WL.yes rfl (decide_eq_true E1.1) ?_
          refine WL.mv rfl rfl ?_
          refine WL.yes rfl (decide_eq_true E1.1) ?_
          refine WL.mv rfl rfl ?_
          refine WL.yes rfl (decide_eq_true E1.1) ?_
          first | refine WL.val rfl (V_subN rfl rfl (by omega)) ?_ | refine WL.val rfl (V_sub rfl rfl) ?_
          refine WL.yes rfl (decide_eq_true E1.1) ?_
          refine WL.mod _ rfl (by kernel_rfl) rfl (by repeat (first | exact Upd.here _ _ | apply Upd.there)) (fun w hp => take_calls b17 most every (takeT N N) (takeN most every N n N) _ 43 w (hp.held (b17, .cells (bkt most every (takeT N N) (takeN most every N n N)) 43) (by simp)) (hk.take _)) ?_
          refine WL.yes rfl (decide_eq_true E1.1) ?_
          refine WL.val rfl (V_eql rfl rfl) ?_
          refine WL.val rfl (V_pick_t rfl (decide_eq_true E1.1) rfl) ?_
          refine WL.mv rfl rfl ?_
          refine WL.yes rfl (decide_eq_true E1.2.1) ?_
          refine WL.mv rfl rfl ?_
          refine WL.yes rfl (decide_eq_true E1.2.1) ?_
          refine WL.mv rfl rfl ?_
          refine WL.yes rfl (decide_eq_true E1.2.1) ?_
          first | refine WL.val rfl (V_subN rfl rfl (by omega)) ?_ | refine WL.val rfl (V_sub rfl rfl) ?_
          refine WL.yes rfl (decide_eq_true E1.2.1) ?_
          refine WL.pure _ rfl (by kernel_rfl) rfl (fun w hp => has_calls b17 most every (takeT (takeT N N) (N - 1)) (takeN most every (takeT N N) (takeN most every N n N) (N - 1)) _ w (At.hp (by repeat (first | exact At.head | exact AtW.at ‹_› (by simp) | apply At.tail)) hp) ((hk.take _).take _)) ?_
          refine WL.yes rfl (decide_eq_true E1.2.1) ?_
          refine WL.val rfl (V_eql rfl rfl) ?_
          refine WL.val rfl (V_pick_t rfl (decide_eq_true E1.2.1) rfl) ?_
          refine WL.mv rfl rfl ?_
          refine WL.yes rfl (decide_eq_true E1.2.2.1) ?_
          refine WL.mv rfl rfl ?_
          refine WL.yes rfl (decide_eq_true E1.2.2.1) ?_
          refine WL.mv rfl rfl ?_
          refine WL.yes rfl (decide_eq_true E1.2.2.1) ?_
          refine WL.pure _ rfl (by kernel_rfl) rfl (fun w hp => has_calls b17 most every (takeT (takeT N N) (N - 1)) (takeN most every (takeT N N) (takeN most every N n N) (N - 1)) _ w (At.hp (by repeat (first | exact At.head | exact AtW.at ‹_› (by simp) | apply At.tail)) hp) ((hk.take _).take _)) ?_
          refine WL.yes rfl (decide_eq_true E1.2.2.1) ?_
          refine WL.val rfl (V_eql rfl rfl) ?_
          refine WL.val rfl (V_pick_t rfl (decide_eq_true E1.2.2.1) rfl) ?_
          refine WL.as rfl rfl ?_
          refine WL.nil ?_
          refine WQ.then ?_
          refine W.ret ?_
          refine WQ.ret1 Try.results5 (.tmp rfl) ?_
          intro w' hp; refine ⟨?_, hp.forget⟩; rw [decide_eq_true E1.2.2.2]

theorem waits_callsBad (most every frm : Int) (w : World) (hm : ¬ mayB most every) :
    Calls Try.prog 5 [.int .i64 most, .int .i64 every, .int .i64 frm].toArray w fun e w' => e = .returned (.bool true) ∧ HP w w' [] [] := by
  refine calls_of_W Try.func5 rfl Try.ntmps5 rfl rfl (HP.refl w []) ?_
  refine W.seq ?_
  refine W.region ?_
  refine WL.as rfl rfl ?_
  refine WL.nil ?_
  refine WQ.then ?_
  refine W.seq ?_
  refine W.region ?_
  refine WL.pure _ rfl (by kernel_rfl) rfl (fun w hp => awake_calls w) ?_
  refine WL.as rfl rfl ?_
  refine WL.nil ?_
  refine WQ.then ?_
  refine W.seq ?_
  refine W.region ?_
  refine WL.mv rfl rfl ?_
  refine WL.mv rfl rfl ?_
  refine WL.pure _ rfl (by kernel_rfl) rfl (fun w hp => newbad_calls most every w hm) ?_
  refine WL.mv rfl rfl ?_
  refine WL.val rfl (V_extract rfl rfl) ?_
  refine WL.val rfl (V_extract rfl rfl) ?_
  refine WL.as rfl rfl ?_
  refine WL.as rfl rfl ?_
  refine WL.nil ?_
  refine WQ.then ?_
  refine W.seq ?_
  refine W.seq ?_
  refine W.region ?_
  refine WL.mv rfl rfl ?_
  refine WL.val rfl (V_eqlP (by kernel_rfl) rfl rfl) ?_
  refine WL.mv rfl rfl ?_
  refine WL.no rfl rfl rfl ?_
  refine WL.no rfl rfl rfl ?_
  refine WL.val rfl (V_pick_t rfl rfl rfl) ?_
  refine WL.mv rfl rfl ?_
  refine WL.no rfl rfl rfl ?_
  refine WL.no rfl rfl rfl ?_
  refine WL.val rfl (V_pick_t rfl rfl rfl) ?_
  refine WL.mv rfl rfl ?_
  refine WL.no rfl rfl rfl ?_
  refine WL.no rfl rfl rfl ?_
  refine WL.val rfl (V_pick_t rfl rfl rfl) ?_
  refine WL.mv rfl rfl ?_
  refine WL.no rfl rfl rfl ?_
  refine WL.no rfl rfl rfl ?_
  refine WL.val rfl (V_pick_t rfl rfl rfl) ?_
  refine WL.nil ?_
  refine WQ.then ?_
  refine W.cond_true rfl rfl ?_
  refine W.seq ?_
  refine W.region ?_
  refine WL.mv rfl rfl ?_
  refine WL.mv rfl rfl ?_
  refine WL.yes rfl rfl ?_
  refine WL.mv rfl rfl ?_
  refine WL.yes rfl rfl ?_
  refine WL.val rfl (V_eql rfl rfl) ?_
  refine WL.yes rfl rfl ?_
  refine WL.mv rfl rfl ?_
  refine WL.yes rfl rfl ?_
  refine WL.val rfl (V_neqP (by kernel_rfl) rfl rfl) ?_
  refine WL.yes rfl rfl ?_
  refine WL.val rfl (V_eqlB (by kernel_rfl) rfl rfl) ?_
  refine WL.val rfl (V_pick_t rfl rfl rfl) ?_
  refine WL.as rfl rfl ?_
  refine WL.nil ?_
  refine WQ.then ?_
  refine W.ret ?_
  refine WQ.then_ret ?_
  refine WQ.ret1 Try.results5 (.tmp rfl) ?_
  intro w' hp; exact ⟨rfl, hp.forget⟩

end Go.Proofs.Ytlkmdhajfkkppaa