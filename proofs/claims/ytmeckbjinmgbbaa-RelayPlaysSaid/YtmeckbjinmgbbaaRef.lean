/- The other functions of the buckets: New, Has; the reference's; the first look of the laws. -/
import Derived.Test.YtmeckbjinmgbbaaBucket
set_option linter.unusedVariables false
set_option linter.unusedSimpArgs false

namespace Go.Proofs.Ytmeckbjinmgbbaa
open Go.X
theorem lvF_bd2 {m e t n now : Int} (h : OkB m e t n) (h1 : t ≤ now) : 0 ≤ now / e ∧ now / e ≤ now ∧ 0 ≤ t / e ∧ t / e ≤ t := by
  have := h.e1; have := h.t1
  exact ⟨Int.ediv_nonneg (by omega) (by omega), Int.ediv_le_self _ (by omega), Int.ediv_nonneg (by omega) (by omega), Int.ediv_le_self _ (by omega)⟩
def bmayB (most every : Int) : Prop := 1 ≤ most ∧ most ≤ 1000 ∧ 1 ≤ every ∧ every ≤ 1000
theorem bmayB.ok {most every : Int} (h : bmayB most every) : OkB most every 0 most := by
  obtain ⟨h1, h2, h3, h4⟩ := h
  exact ⟨h1, h2, h3, h4, by omega, by omega, by omega, by omega⟩

theorem new_calls (most every : Int) (w : World) (hk : bmayB most every) :
    Calls Try.prog 47 [.int .i64 most, .int .i64 every].toArray w fun e w' => ∃ r : Nat, True ∧ e = .returned (.tuple #[.pointer (some ⟨r, 0, none⟩), .int .i64 0]) ∧ HP w w' [] [(r, .cells (bkt most every 0 most) 200)] := by
  obtain ⟨k1, k2, k3, k4⟩ := hk
  refine calls_of_W Try.func47 rfl Try.ntmps47 rfl rfl (HP.refl w []) ?_
  refine W.seq ?_
  refine W.region ?_
  refine WL.as rfl rfl ?_
  refine WL.as rfl rfl ?_
  refine WL.nil ?_
  refine WQ.then ?_
  refine W.seq ?_
  refine W.seq ?_
  refine W.region ?_
  refine WL.mv rfl rfl ?_
  refine WL.mv rfl rfl ?_
  refine WL.val rfl (V_min rfl) ?_
  refine WL.val rfl (V_lss rfl rfl) ?_
  refine WL.mv rfl rfl ?_
  refine WL.yes rfl (decide_eq_false (by omega)) ?_
  refine WL.mv rfl rfl ?_
  refine WL.yes rfl (decide_eq_false (by omega)) ?_
  refine WL.mv rfl rfl ?_
  refine WL.yes rfl (decide_eq_false (by omega)) ?_
  refine WL.val rfl (V_max rfl) ?_
  refine WL.yes rfl (decide_eq_false (by omega)) ?_
  refine WL.val rfl (V_gtr rfl rfl) ?_
  refine WL.val rfl (V_pick_f rfl (decide_eq_false (by omega)) rfl) ?_
  refine WL.nil ?_
  refine WQ.then ?_
  refine W.cond_false rfl (decide_eq_false (by omega)) ?_
  refine W.skip ?_
  refine WQ.then ?_
  refine W.seq ?_
  refine W.region ?_
  refine WL.mv rfl rfl ?_
  refine WL.mv rfl rfl ?_
  refine WL.val rfl (V_build (by kernel_rfl) (zs := [(1, [.int .i64 0]), (1, [.int .i64 0]), (1, [.int .i64 0]), (1, [.int .i64 0])]) ⟨by kernel_rfl, by repeat (first | exact Fit.nil | refine Fit.mk (by first | rfl | (simp; done) | (simp [iv_len]; done) | simp [iv_len, *]) ?_)⟩ (.one (k := 0) rfl rfl (by kernel_rfl) rfl (.one (k := 1) rfl rfl (by kernel_rfl) rfl (.nil _)))) ?_
  refine WL.new rfl (E_boxA rfl (by repeat (first | exact Fit.nil | refine Fit.mk (by first | rfl | (simp; done) | (simp [iv_len]; done) | simp [iv_len, *]) ?_))) ?_; intro b20
  refine WL.as rfl rfl ?_
  refine WL.nil ?_
  refine WQ.then ?_
  refine W.seq ?_
  refine W.region ?_
  refine WL.mv rfl rfl ?_
  refine WL.val rfl (V_nil rfl) ?_
  refine WL.val rfl (V_fieldAddr 3 1 (by kernel_rfl) rfl) ?_
  refine WL.mv rfl rfl ?_
  refine WL.mod _ rfl (by kernel_rfl) rfl (by repeat (first | exact Upd.here _ _ | apply Upd.there)) (fun w hp => astore_calls b20 3 (bkt most every 0 0) (bkt most every 0 most) 200 _ w (hp.held (b20, .cells (bkt most every 0 0) 200) (by simp [bkt])) rfl) ?_
  refine WL.nil ?_
  refine WQ.then ?_
  refine W.seq ?_
  refine W.region ?_
  refine WL.mv rfl rfl ?_
  refine WL.as rfl rfl ?_
  refine WL.as rfl rfl ?_
  refine WL.nil ?_
  refine WQ.then ?_
  refine W.ret ?_
  refine WQ.ret2 Try.results47 (.tmp rfl) (.tmp rfl) ?_
  intro w' hp; exact ⟨b20, trivial, rfl, hp⟩

theorem newbad_calls (most every : Int) (w : World) (hk : ¬ bmayB most every) :
    Calls Try.prog 47 [.int .i64 most, .int .i64 every].toArray w fun e w' => e = .returned (.tuple #[.pointer none, .int .i64 1]) ∧ HP w w' [] [] := by
  unfold bmayB at hk
  refine calls_of_W Try.func47 rfl Try.ntmps47 rfl rfl (HP.refl w []) ?_
  refine W.seq ?_
  refine W.region ?_
  refine WL.as rfl rfl ?_
  refine WL.as rfl rfl ?_
  refine WL.nil ?_
  refine WQ.then ?_
  refine W.seq ?_
  refine W.seq ?_
  refine W.region ?_
  refine WL.mv rfl rfl ?_
  refine WL.mv rfl rfl ?_
  refine WL.val rfl (V_min rfl) ?_
  refine WL.val rfl (V_lss rfl rfl) ?_
  refine WL.mv rfl rfl ?_
  refine WL.splitD rfl (fun g1 => ?_) (fun g1 => ?_)
  ·
    refine WL.no rfl rfl (decide_eq_true g1) ?_
    refine WL.no rfl rfl (decide_eq_true g1) ?_
    refine WL.no rfl rfl (decide_eq_true g1) ?_
    refine WL.no rfl rfl (decide_eq_true g1) ?_
    refine WL.val rfl (V_pick_td rfl g1 rfl) ?_
    refine WL.nil ?_
    refine WQ.then ?_
    refine W.cond_true rfl rfl ?_
    refine W.seq ?_
    refine W.region ?_
    refine WL.as rfl rfl ?_
    refine WL.as rfl rfl ?_
    refine WL.nil ?_
    refine WQ.then ?_
    refine W.ret ?_
    refine WQ.then_ret ?_
    refine WQ.ret2 Try.results47 (.tmp rfl) (.tmp rfl) ?_
    intro w' hp; exact ⟨rfl, hp.forget⟩
  ·
    refine WL.yes rfl (decide_eq_false g1) ?_
    refine WL.mv rfl rfl ?_
    refine WL.yes rfl (decide_eq_false g1) ?_
    refine WL.mv rfl rfl ?_
    refine WL.yes rfl (decide_eq_false g1) ?_
    refine WL.val rfl (V_max rfl) ?_
    refine WL.yes rfl (decide_eq_false g1) ?_
    refine WL.val rfl (V_gtr rfl rfl) ?_
    refine WL.val rfl (V_pick_fd rfl g1 rfl) ?_
    refine WL.nil ?_
    refine WQ.then ?_
    refine W.cond_dec rfl (fun g2 => ?_) (fun g2 => ?_)
    ·
      refine W.seq ?_
      refine W.region ?_
      refine WL.as rfl rfl ?_
      refine WL.as rfl rfl ?_
      refine WL.nil ?_
      refine WQ.then ?_
      refine W.ret ?_
      refine WQ.then_ret ?_
      refine WQ.ret2 Try.results47 (.tmp rfl) (.tmp rfl) ?_
      intro w' hp; exact ⟨rfl, hp.forget⟩
    ·
      refine W.skip ?_
      refine WQ.then ?_
      refine W.seq ?_
      refine W.region ?_
      refine WL.mv rfl rfl ?_
      refine WL.mv rfl rfl ?_
      refine WL.val rfl (V_build (by kernel_rfl) (zs := [(1, [.int .i64 0]), (1, [.int .i64 0]), (1, [.int .i64 0]), (1, [.int .i64 0])]) ⟨by kernel_rfl, by repeat (first | exact Fit.nil | refine Fit.mk (by first | rfl | (simp; done) | (simp [iv_len]; done) | simp [iv_len, *]) ?_)⟩ (.one (k := 0) rfl rfl (by kernel_rfl) rfl (.one (k := 1) rfl rfl (by kernel_rfl) rfl (.nil _)))) ?_
      refine WL.new rfl (E_boxA rfl (by repeat (first | exact Fit.nil | refine Fit.mk (by first | rfl | (simp; done) | (simp [iv_len]; done) | simp [iv_len, *]) ?_))) ?_; intro b20
      refine WL.as rfl rfl ?_
      refine WL.nil ?_
      refine WQ.then ?_
      refine W.seq ?_
      refine W.region ?_
      refine WL.mv rfl rfl ?_
      refine WL.val rfl (V_nil rfl) ?_
      refine WL.val rfl (V_fieldAddr 3 1 (by kernel_rfl) rfl) ?_
      refine WL.mv rfl rfl ?_
      omega

theorem rnew_calls (most every : Int) (w : World) (hk : bmayB most every) :
    Calls Try.prog 89 [.int .i64 most, .int .i64 every].toArray w fun e w' => ∃ r : Nat, True ∧ e = .returned (.tuple #[.pointer (some ⟨r, 0, none⟩), .int .i64 0]) ∧ HP w w' [] [(r, .cells (bkt most every 0 most) 247)] := by
  obtain ⟨k1, k2, k3, k4⟩ := hk
  refine calls_of_W Try.func89 rfl Try.ntmps89 rfl rfl (HP.refl w []) ?_
  refine W.seq ?_
  refine W.region ?_
  refine WL.as rfl rfl ?_
  refine WL.as rfl rfl ?_
  refine WL.nil ?_
  refine WQ.then ?_
  refine W.seq ?_
  refine W.seq ?_
  refine W.region ?_
  refine WL.mv rfl rfl ?_
  refine WL.val rfl (V_lss rfl rfl) ?_
  refine WL.mv rfl rfl ?_
  refine WL.yes rfl (decide_eq_false (by omega)) ?_
  refine WL.mv rfl rfl ?_
  refine WL.yes rfl (decide_eq_false (by omega)) ?_
  refine WL.val rfl (V_gtr rfl rfl) ?_
  refine WL.val rfl (V_pick_f rfl (decide_eq_false (by omega)) rfl) ?_
  refine WL.mv rfl rfl ?_
  refine WL.yes rfl (decide_eq_false (by omega)) ?_
  refine WL.mv rfl rfl ?_
  refine WL.yes rfl (decide_eq_false (by omega)) ?_
  refine WL.val rfl (V_lss rfl rfl) ?_
  refine WL.val rfl (V_pick_f rfl (decide_eq_false (by omega)) rfl) ?_
  refine WL.mv rfl rfl ?_
  refine WL.yes rfl (decide_eq_false (by omega)) ?_
  refine WL.mv rfl rfl ?_
  refine WL.yes rfl (decide_eq_false (by omega)) ?_
  refine WL.val rfl (V_gtr rfl rfl) ?_
  refine WL.val rfl (V_pick_f rfl (decide_eq_false (by omega)) rfl) ?_
  refine WL.nil ?_
  refine WQ.then ?_
  refine W.cond_false rfl (decide_eq_false (by omega)) ?_
  refine W.skip ?_
  refine WQ.then ?_
  refine W.seq ?_
  refine W.region ?_
  refine WL.mv rfl rfl ?_
  refine WL.mv rfl rfl ?_
  refine WL.mv rfl rfl ?_
  refine WL.val rfl (V_build (by kernel_rfl) (zs := [(1, [.int .i64 0]), (1, [.int .i64 0]), (1, [.int .i64 0]), (1, [.int .i64 0])]) ⟨by kernel_rfl, by repeat (first | exact Fit.nil | refine Fit.mk (by first | rfl | (simp; done) | (simp [iv_len]; done) | simp [iv_len, *]) ?_)⟩ (.one (k := 0) rfl rfl (by kernel_rfl) rfl (.one (k := 1) rfl rfl (by kernel_rfl) rfl (.one (k := 3) rfl rfl (by kernel_rfl) rfl (.nil _))))) ?_
  refine WL.new rfl (E_boxA rfl (by repeat (first | exact Fit.nil | refine Fit.mk (by first | rfl | (simp; done) | (simp [iv_len]; done) | simp [iv_len, *]) ?_))) ?_; intro b24
  refine WL.as rfl rfl ?_
  refine WL.as rfl rfl ?_
  refine WL.nil ?_
  refine WQ.then ?_
  refine W.ret ?_
  refine WQ.ret2 Try.results89 (.tmp rfl) (.tmp rfl) ?_
  intro w' hp; exact ⟨b24, trivial, rfl, hp⟩

theorem rnewbad_calls (most every : Int) (w : World) (hk : ¬ bmayB most every) :
    Calls Try.prog 89 [.int .i64 most, .int .i64 every].toArray w fun e w' => e = .returned (.tuple #[.pointer none, .int .i64 1]) ∧ HP w w' [] [] := by
  unfold bmayB at hk
  refine calls_of_W Try.func89 rfl Try.ntmps89 rfl rfl (HP.refl w []) ?_
  refine W.seq ?_
  refine W.region ?_
  refine WL.as rfl rfl ?_
  refine WL.as rfl rfl ?_
  refine WL.nil ?_
  refine WQ.then ?_
  refine W.seq ?_
  refine W.seq ?_
  refine W.region ?_
  refine WL.mv rfl rfl ?_
  refine WL.val rfl (V_lss rfl rfl) ?_
  refine WL.mv rfl rfl ?_
  refine WL.splitD rfl (fun g1 => ?_) (fun g1 => ?_)
  ·
    refine WL.no rfl rfl (decide_eq_true g1) ?_
    refine WL.no rfl rfl (decide_eq_true g1) ?_
    refine WL.val rfl (V_pick_td rfl g1 rfl) ?_
    refine WL.mv rfl rfl ?_
    refine WL.no rfl rfl rfl ?_
    refine WL.no rfl rfl rfl ?_
    refine WL.val rfl (V_pick_t rfl rfl rfl) ?_
    refine WL.mv rfl rfl ?_
    refine WL.no rfl rfl rfl ?_
    refine WL.no rfl rfl rfl ?_
    refine WL.val rfl (V_pick_t rfl rfl rfl) ?_
    refine WL.nil ?_
    refine WQ.then ?_
    refine W.cond_true rfl rfl ?_
    refine W.seq ?_
    refine W.region ?_
    refine WL.as rfl rfl ?_
    refine WL.as rfl rfl ?_
    refine WL.nil ?_
    refine WQ.then ?_
    refine W.ret ?_
    refine WQ.then_ret ?_
    refine WQ.ret2 Try.results89 (.tmp rfl) (.tmp rfl) ?_
    intro w' hp; exact ⟨rfl, hp.forget⟩
  ·
    refine WL.yes rfl (decide_eq_false g1) ?_
    refine WL.mv rfl rfl ?_
    refine WL.yes rfl (decide_eq_false g1) ?_
    refine WL.val rfl (V_gtr rfl rfl) ?_
    refine WL.val rfl (V_pick_fd rfl g1 rfl) ?_
    refine WL.mv rfl rfl ?_
    refine WL.splitD rfl (fun g2 => ?_) (fun g2 => ?_)
    ·
      refine WL.no rfl rfl (decide_eq_true g2) ?_
      refine WL.no rfl rfl (decide_eq_true g2) ?_
      refine WL.val rfl (V_pick_td rfl g2 rfl) ?_
      refine WL.mv rfl rfl ?_
      refine WL.no rfl rfl rfl ?_
      refine WL.no rfl rfl rfl ?_
      refine WL.val rfl (V_pick_t rfl rfl rfl) ?_
      refine WL.nil ?_
      refine WQ.then ?_
      refine W.cond_true rfl rfl ?_
      refine W.seq ?_
      refine W.region ?_
      refine WL.as rfl rfl ?_
      refine WL.as rfl rfl ?_
      refine WL.nil ?_
      refine WQ.then ?_
      refine W.ret ?_
      refine WQ.then_ret ?_
      refine WQ.ret2 Try.results89 (.tmp rfl) (.tmp rfl) ?_
      intro w' hp; exact ⟨rfl, hp.forget⟩
    ·
      refine WL.yes rfl (decide_eq_false g2) ?_
      refine WL.mv rfl rfl ?_
      refine WL.yes rfl (decide_eq_false g2) ?_
      refine WL.val rfl (V_lss rfl rfl) ?_
      refine WL.val rfl (V_pick_fd rfl g2 rfl) ?_
      refine WL.mv rfl rfl ?_
      refine WL.splitD rfl (fun g3 => ?_) (fun g3 => ?_)
      ·
        refine WL.no rfl rfl (decide_eq_true g3) ?_
        refine WL.no rfl rfl (decide_eq_true g3) ?_
        refine WL.val rfl (V_pick_td rfl g3 rfl) ?_
        refine WL.nil ?_
        refine WQ.then ?_
        refine W.cond_true rfl rfl ?_
        refine W.seq ?_
        refine W.region ?_
        refine WL.as rfl rfl ?_
        refine WL.as rfl rfl ?_
        refine WL.nil ?_
        refine WQ.then ?_
        refine W.ret ?_
        refine WQ.then_ret ?_
        refine WQ.ret2 Try.results89 (.tmp rfl) (.tmp rfl) ?_
        intro w' hp; exact ⟨rfl, hp.forget⟩
      ·
        refine WL.yes rfl (decide_eq_false g3) ?_
        refine WL.mv rfl rfl ?_
        refine WL.yes rfl (decide_eq_false g3) ?_
        refine WL.val rfl (V_gtr rfl rfl) ?_
        refine WL.val rfl (V_pick_fd rfl g3 rfl) ?_
        refine WL.nil ?_
        refine WQ.then ?_
        refine W.cond_dec rfl (fun g4 => ?_) (fun g4 => ?_)
        ·
          refine W.seq ?_
          refine W.region ?_
          refine WL.as rfl rfl ?_
          refine WL.as rfl rfl ?_
          refine WL.nil ?_
          refine WQ.then ?_
          refine W.ret ?_
          refine WQ.then_ret ?_
          refine WQ.ret2 Try.results89 (.tmp rfl) (.tmp rfl) ?_
          intro w' hp; exact ⟨rfl, hp.forget⟩
        ·
          refine W.skip ?_
          refine WQ.then ?_
          refine W.seq ?_
          refine W.region ?_
          refine WL.mv rfl rfl ?_
          refine WL.mv rfl rfl ?_
          refine WL.mv rfl rfl ?_
          refine WL.val rfl (V_build (by kernel_rfl) (zs := [(1, [.int .i64 0]), (1, [.int .i64 0]), (1, [.int .i64 0]), (1, [.int .i64 0])]) ⟨by kernel_rfl, by repeat (first | exact Fit.nil | refine Fit.mk (by first | rfl | (simp; done) | (simp [iv_len]; done) | simp [iv_len, *]) ?_)⟩ (.one (k := 0) rfl rfl (by kernel_rfl) rfl (.one (k := 1) rfl rfl (by kernel_rfl) rfl (.one (k := 3) rfl rfl (by kernel_rfl) rfl (.nil _))))) ?_
          omega

theorem rhas_calls (b : Nat) (most every time many now : Int) (w : World) (hA : AtW w b (bkt most every time many)) (hk : OkB most every time many) :
    Calls Try.prog 123 [.pointer (some ⟨b, 0, none⟩), .int .i64 now].toArray w fun e w' => e = .returned (.int .i64 (hasF most every time many now)) ∧ HP w w' [] [] := by
  have hbd := fun h1 => lvF_bd2 (now := now) hk h1
  obtain ⟨m1, m2, e1, e2, t1, t2, n1, n2⟩ := hk
  refine calls_of_W Try.func123 rfl Try.ntmps123 rfl rfl (HP.refl w []) ?_
  refine W.seq ?_
  refine W.region ?_
  refine WL.as rfl rfl ?_
  refine WL.nil ?_
  refine WQ.then ?_
  refine W.seq ?_
  refine W.seq ?_
  refine W.region ?_
  refine WL.mv rfl rfl ?_
  refine WL.mv rfl rfl ?_
  refine WL.val rfl (V_nil rfl) ?_
  refine WL.val rfl (V_fieldAddr 2 1 (by kernel_rfl) rfl) ?_
  refine WL.val rfl (V_load (by kernel_rfl) rfl (by repeat (first | exact At.head | exact AtW.at ‹_› (by simp) | apply At.tail)) (by rfl)) ?_
  refine WL.val rfl (V_lss rfl rfl) ?_
  refine WL.mv rfl rfl ?_
  refine WL.splitD rfl (fun g1 => ?_) (fun g1 => ?_)
  ·
    refine WL.no rfl rfl (decide_eq_true g1) ?_
    refine WL.no rfl rfl (decide_eq_true g1) ?_
    refine WL.val rfl (V_pick_td rfl g1 rfl) ?_
    refine WL.nil ?_
    refine WQ.then ?_
    refine W.cond_true rfl rfl ?_
    refine W.seq ?_
    refine W.region ?_
    refine WL.as rfl rfl ?_
    refine WL.nil ?_
    refine WQ.then ?_
    refine W.ret ?_
    refine WQ.then_ret ?_
    refine WQ.ret1 Try.results123 (.tmp rfl) ?_
    intro w' hp; rw [show hasF most every time many now = 0 from by unfold hasF; rw [if_pos (by omega)]]; exact ⟨rfl, hp.forget⟩
  ·
    refine WL.yes rfl (decide_eq_false g1) ?_
    refine WL.mv rfl rfl ?_
    refine WL.yes rfl (decide_eq_false g1) ?_
    refine WL.val rfl (V_gtr rfl rfl) ?_
    refine WL.val rfl (V_pick_fd rfl g1 rfl) ?_
    refine WL.nil ?_
    refine WQ.then ?_
    refine W.cond_dec rfl (fun g2 => ?_) (fun g2 => ?_)
    ·
      refine W.seq ?_
      refine W.region ?_
      refine WL.as rfl rfl ?_
      refine WL.nil ?_
      refine WQ.then ?_
      refine W.ret ?_
      refine WQ.then_ret ?_
      refine WQ.ret1 Try.results123 (.tmp rfl) ?_
      intro w' hp; rw [show hasF most every time many now = 0 from by unfold hasF; rw [if_pos (by omega)]]; exact ⟨rfl, hp.forget⟩
    ·
      refine W.skip ?_
      refine WQ.then ?_
      refine W.seq ?_
      refine W.drawn (.q 0 (.q 1 (.q 2 (.q 3 (.q 4 (.q 5 (.q 6 (.q 7 (.q 8 (.q 9 (.q 10 (.q 11 (.q 12 (.q 13 (.q 14 (.q 15 (.q 16 (.q 17 (.q 18 (.q 19 (.q 20 (.q 21 (.q 22 (.q 23 (.q 24 (.q 25 (.q 26 (.done)))))))))))))))))))))))))))) [] (by kernel_rfl) (fun _ a d _ _ h => by cases d <;> exact h) (by kernel_rfl) (by repeat (first | exact List.Sublist.refl _ | exact List.nil_sublist _ | refine List.Sublist.cons_cons _ ?_ | refine List.Sublist.cons _ ?_)) ?_
      have hbd := hbd (by omega)
      refine WD.q rfl rfl (V_move rfl) ?_
      refine WD.q rfl rfl (V_nil rfl) ?_
      refine WD.q rfl rfl (V_fieldAddr 0 1 (by kernel_rfl) rfl) ?_
      refine WD.q rfl rfl (V_load (by kernel_rfl) rfl (by repeat (first | exact At.head | exact AtW.at ‹_› (by simp) | apply At.tail)) (by rfl)) ?_
      refine WD.q rfl rfl (V_move rfl) ?_
      refine WD.q rfl rfl (V_nil rfl) ?_
      refine WD.q rfl rfl (V_fieldAddr 3 1 (by kernel_rfl) rfl) ?_
      refine WD.q rfl rfl (V_load (by kernel_rfl) rfl (by repeat (first | exact At.head | exact AtW.at ‹_› (by simp) | apply At.tail)) (by rfl)) ?_
      refine WD.q rfl rfl (V_move rfl) ?_
      refine WD.q rfl rfl (V_move rfl) ?_
      refine WD.q rfl rfl (V_nil rfl) ?_
      refine WD.q rfl rfl (V_fieldAddr 1 1 (by kernel_rfl) rfl) ?_
      refine WD.q rfl rfl (V_load (by kernel_rfl) rfl (by repeat (first | exact At.head | exact AtW.at ‹_› (by simp) | apply At.tail)) (by rfl)) ?_
      first | refine WD.q rfl rfl (V_quoN rfl rfl (by omega) (by omega) (by omega)) ?_ | refine WD.q rfl rfl (V_quo rfl rfl (by omega)) ?_
      first | refine WD.q rfl rfl (V_addN rfl rfl (by omega)) ?_ | refine WD.q rfl rfl (V_add rfl rfl) ?_
      refine WD.q rfl rfl (V_move rfl) ?_
      refine WD.q rfl rfl (V_nil rfl) ?_
      refine WD.q rfl rfl (V_fieldAddr 2 1 (by kernel_rfl) rfl) ?_
      refine WD.q rfl rfl (V_load (by kernel_rfl) rfl (by repeat (first | exact At.head | exact AtW.at ‹_› (by simp) | apply At.tail)) (by rfl)) ?_
      refine WD.q rfl rfl (V_move rfl) ?_
      refine WD.q rfl rfl (V_nil rfl) ?_
      refine WD.q rfl rfl (V_fieldAddr 1 1 (by kernel_rfl) rfl) ?_
      refine WD.q rfl rfl (V_load (by kernel_rfl) rfl (by repeat (first | exact At.head | exact AtW.at ‹_› (by simp) | apply At.tail)) (by rfl)) ?_
      first | refine WD.q rfl rfl (V_quoN rfl rfl (by omega) (by omega) (by omega)) ?_ | refine WD.q rfl rfl (V_quo rfl rfl (by omega)) ?_
      first | refine WD.q rfl rfl (V_subN rfl rfl (by omega)) ?_ | refine WD.q rfl rfl (V_sub rfl rfl) ?_
      refine WD.q rfl rfl (V_min rfl) ?_
      refine WD.q rfl rfl (V_assign rfl) ?_
      refine WD.done ?_
      refine WQ.then ?_
      refine W.ret ?_
      refine WQ.ret1 Try.results123 (.tmp rfl) ?_
      intro w' hp; rw [show hasF most every time many now = min most (many + now / every - time / every) from by unfold hasF lvF; rw [if_neg (by omega), Int.add_sub_assoc]]; exact ⟨rfl, hp.forget⟩

theorem rtake_calls (b : Nat) (most every time many now : Int) (T : TypeId) (w : World) (hA : (Blk.cells (bkt most every time many) T).Is w.heap[b]?) (hk : OkB most every time many) :
    Calls Try.prog 94 [.pointer (some ⟨b, 0, none⟩), .int .i64 now].toArray w fun e w' => e = .returned (.int .i64 (takeE most every time many now)) ∧ HP w w' [b] [(b, .cells (bkt most every (takeT time now) (takeN most every time many now)) T)] := by
  have hlv := fun h => lvF_bd (now := now) hk h
  have hk0 := hk
  obtain ⟨m1, m2, e1, e2, t1, t2, n1, n2⟩ := hk
  refine calls_of_W Try.func94 rfl Try.ntmps94 rfl rfl (HP.start (O := [b]) (L := [(b, .cells (bkt most every time many) T)]) (by simpa using hA) (by simp) (by simp)) ?_
  refine W.seq ?_
  refine W.region ?_
  refine WL.as rfl rfl ?_
  refine WL.nil ?_
  refine WQ.then ?_
  refine W.seq ?_
  refine W.seq ?_
  refine W.region ?_
  refine WL.mv rfl rfl ?_
  refine WL.val rfl (V_gtr rfl rfl) ?_
  refine WL.nil ?_
  refine WQ.then ?_
  refine W.cond_dec rfl (fun g1 => ?_) (fun g1 => ?_)
  ·
    refine W.seq ?_
    refine W.region ?_
    refine WL.as rfl rfl ?_
    refine WL.nil ?_
    refine WQ.then ?_
    refine W.ret ?_
    refine WQ.then_ret ?_
    refine WQ.ret1 Try.results94 (.tmp rfl) ?_
    intro w' hp; rw [show takeE most every time many now = 1 from by unfold takeE; rw [if_pos (by omega)], show takeT time now = time from by unfold takeT; rw [if_pos (by omega)], show takeN most every time many now = many from by unfold takeN; rw [if_pos (by omega)]]; exact ⟨rfl, hp.sub (by repeat (first | exact List.Sublist.refl _ | exact List.nil_sublist _ | refine List.Sublist.cons_cons _ ?_ | refine List.Sublist.cons _ ?_))⟩
  ·
    refine W.skip ?_
    refine WQ.then ?_
    refine W.seq ?_
    refine W.seq ?_
    refine W.region ?_
    refine WL.mv rfl rfl ?_
    refine WL.mv rfl rfl ?_
    refine WL.val rfl (V_nil rfl) ?_
    refine WL.val rfl (V_fieldAddr 2 1 (by kernel_rfl) rfl) ?_
    refine WL.val rfl (V_load (by kernel_rfl) rfl (by repeat (first | exact At.head | exact AtW.at ‹_› (by simp) | apply At.tail)) (by rfl)) ?_
    refine WL.val rfl (V_lss rfl rfl) ?_
    refine WL.nil ?_
    refine WQ.then ?_
    refine W.cond_dec rfl (fun g2 => ?_) (fun g2 => ?_)
    ·
      refine W.seq ?_
      refine W.region ?_
      refine WL.as rfl rfl ?_
      refine WL.nil ?_
      refine WQ.then ?_
      refine W.ret ?_
      refine WQ.then_ret ?_
      refine WQ.ret1 Try.results94 (.tmp rfl) ?_
      intro w' hp; rw [show takeE most every time many now = 5 from by unfold takeE; rw [if_neg (by omega), if_pos (by omega)], show takeT time now = time from by unfold takeT; rw [if_neg (by omega), if_pos (by omega)], show takeN most every time many now = many from by unfold takeN; rw [if_neg (by omega), if_pos (by omega)]]; exact ⟨rfl, hp.sub (by repeat (first | exact List.Sublist.refl _ | exact List.nil_sublist _ | refine List.Sublist.cons_cons _ ?_ | refine List.Sublist.cons _ ?_))⟩
    ·
      refine W.skip ?_
      refine WQ.then ?_
      refine W.seq ?_
      refine W.region ?_
      refine WL.mv rfl rfl ?_
      refine WL.mv rfl rfl ?_
      refine WL.pure _ rfl (by kernel_rfl) rfl (fun w hp => rhas_calls b most every time many _ w (At.hp (by repeat (first | exact At.head | exact AtW.at ‹_› (by simp) | apply At.tail)) hp) hk0) ?_
      refine WL.as rfl rfl ?_
      refine WL.nil ?_
      refine WQ.then ?_
      refine W.seq ?_
      refine W.region ?_
      rw [show hasF most every time many now = lvF most every time many now from by unfold hasF; rw [if_neg (by omega)]]
      refine WL.mv rfl rfl ?_
      refine WL.mv rfl rfl ?_
      refine WL.val rfl (V_nil rfl) ?_
      refine WL.val rfl (V_fieldAddr 2 1 (by kernel_rfl) rfl) ?_
      refine WL.store (by kernel_rfl) rfl rfl rfl (by repeat (first | exact Upd.here _ _ | apply Upd.there)) (by rfl) ?_
      refine WL.nil ?_
      refine WQ.then ?_
      refine W.seq ?_
      refine W.region ?_
      refine WL.mv rfl rfl ?_
      refine WL.mv rfl rfl ?_
      refine WL.val rfl (V_nil rfl) ?_
      refine WL.val rfl (V_fieldAddr 3 1 (by kernel_rfl) rfl) ?_
      refine WL.store (by kernel_rfl) rfl rfl rfl (by repeat (first | exact Upd.here _ _ | apply Upd.there)) (by rfl) ?_
      refine WL.nil ?_
      refine WQ.then ?_
      refine W.seq ?_
      refine W.seq ?_
      refine W.region ?_
      refine WL.mv rfl rfl ?_
      refine WL.val rfl (V_eql rfl rfl) ?_
      refine WL.nil ?_
      refine WQ.then ?_
      refine W.cond_dec rfl (fun g3 => ?_) (fun g3 => ?_)
      ·
        refine W.seq ?_
        refine W.region ?_
        refine WL.as rfl rfl ?_
        refine WL.nil ?_
        refine WQ.then ?_
        refine W.ret ?_
        refine WQ.then_ret ?_
        refine WQ.ret1 Try.results94 (.tmp rfl) ?_
        intro w' hp; have E0 : lvF most every time many now = 0 := g3; rw [show takeE most every time many now = 10 from by unfold takeE; rw [if_neg (by omega), if_neg (by omega), if_pos g3], show takeT time now = now from by unfold takeT; rw [if_neg (by omega), if_neg (by omega)], show takeN most every time many now = 0 from by unfold takeN; rw [if_neg (by omega), if_neg (by omega), if_pos g3]]; rw [show (0 : Int) = lvF most every time many now from E0.symm]; exact ⟨rfl, hp.sub (by repeat (first | exact List.Sublist.refl _ | exact List.nil_sublist _ | refine List.Sublist.cons_cons _ ?_ | refine List.Sublist.cons _ ?_))⟩
      ·
        refine W.skip ?_
        refine WQ.then ?_
        refine W.seq ?_
        refine W.region ?_
        have hlv := hlv (by omega)
        refine WL.mv rfl rfl ?_
        refine WL.mv rfl rfl ?_
        first | refine WL.val rfl (V_subN rfl rfl (by omega)) ?_ | refine WL.val rfl (V_sub rfl rfl) ?_
        refine WL.val rfl (V_nil rfl) ?_
        refine WL.val rfl (V_fieldAddr 3 1 (by kernel_rfl) rfl) ?_
        refine WL.store (by kernel_rfl) rfl rfl rfl (by repeat (first | exact Upd.here _ _ | apply Upd.there)) (by rfl) ?_
        refine WL.nil ?_
        refine WQ.then ?_
        refine W.seq ?_
        refine W.region ?_
        refine WL.as rfl rfl ?_
        refine WL.nil ?_
        refine WQ.then ?_
        refine W.ret ?_
        refine WQ.ret1 Try.results94 (.tmp rfl) ?_
        intro w' hp; have E0 : ¬ lvF most every time many now = 0 := g3; rw [show takeE most every time many now = 0 from by unfold takeE; rw [if_neg (by omega), if_neg (by omega), if_neg g3], show takeT time now = now from by unfold takeT; rw [if_neg (by omega), if_neg (by omega)], show takeN most every time many now = lvF most every time many now - 1 from by unfold takeN; rw [if_neg (by omega), if_neg (by omega), if_neg g3]]; exact ⟨rfl, hp.sub (by repeat (first | exact List.Sublist.refl _ | exact List.nil_sublist _ | refine List.Sublist.cons_cons _ ?_ | refine List.Sublist.cons _ ?_))⟩

end Go.Proofs.Ytmeckbjinmgbbaa