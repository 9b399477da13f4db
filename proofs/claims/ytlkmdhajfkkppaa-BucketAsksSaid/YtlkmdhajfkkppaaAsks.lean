/- BucketAsks: its walk. -/
import Derived.Test.YtlkmdhajfkkppaaSame
namespace Go.Proofs.Ytlkmdhajfkkppaa
open Go.X
theorem asks1 {m e t n N l : Int} (h : OkB m e t n) (h1 : t ≤ N) (h2 : N ≤ 1000000) (hl : hasF m e t n N = l) (hi : 0 < l) :
    takeE m e t n N = 0 ∧ takeT t N = N ∧ hasF m e N (takeN m e t n N) N = l - 1 := by
  have F := step_facts h h1 h2
  have e1 : takeN m e t n N = l - 1 := by omega
  rw [e1]
  unfold hasF; rw [if_neg (by omega), lvF_now]; omega
theorem asks2 {m e t n N : Int} (h : OkB m e t n) (h1 : t ≤ N) (h2 : N ≤ 1000000) (hl : hasF m e t n N = 0) : takeE m e t n N = 10 ∧ takeT t N = N := by
  have F := step_facts h h1 h2
  omega

theorem asks_calls (most every : Int) (A : Option Addr) (len cap : Nat) (zs : Nat → Int) (w : World) (hl : Ints w A len .i64 zs) (hn : (len : Int) ≤ 9223372036854775807) (hm : mayB most every) :
    Calls Try.prog 7 [.int .i64 most, .int .i64 every, .slice A len cap].toArray w fun e w' => e = .returned (.bool true) ∧ HP w w' [] [] := by
  refine calls_of_W Try.func7 rfl Try.ntmps7 rfl rfl (HP.refl w []) ?_
  refine W.seq ?_
  refine W.region ?_
  refine WL.as rfl rfl ?_
  refine WL.nil ?_
  refine WQ.then ?_
  refine W.seq ?_
  refine W.region ?_
  refine WL.pure _ rfl (by kernel_rfl) rfl (fun w hp => awake_calls w) ?_
  refine WL.as rfl rfl ?_
  refine WL.nil ?_
  refine WQ.then ?_
  refine W.seq ?_
  refine W.region ?_
  refine WL.mv rfl rfl ?_
  refine WL.mv rfl rfl ?_
  refine WL.call [] (fun r => .tuple #[.pointer (some ⟨r, 0, none⟩), .int .i64 0]) (fun r => [(r, .cells (bkt most every 0 most) 43)]) (fun _ => True) rfl (by kernel_rfl) rfl (.nil _) (fun w hp => new_calls most every w hm) ?_; intro b18 _
  refine WL.mv rfl rfl ?_
  refine WL.val rfl (V_extract rfl rfl) ?_
  refine WL.val rfl (V_extract rfl rfl) ?_
  refine WL.as rfl rfl ?_
  refine WL.as rfl rfl ?_
  refine WL.nil ?_
  refine WQ.then ?_
  refine W.seq ?_
  refine W.seq ?_
  refine W.region ?_
  refine WL.mv rfl rfl ?_
  refine WL.val rfl (V_eqlP (by kernel_rfl) rfl rfl) ?_
  refine WL.mv rfl rfl ?_
  refine WL.yes rfl rfl ?_
  refine WL.mv rfl rfl ?_
  refine WL.yes rfl rfl ?_
  refine WL.val rfl (V_gtr rfl rfl) ?_
  refine WL.val rfl (V_pick_f rfl rfl rfl) ?_
  refine WL.mv rfl rfl ?_
  refine WL.splitD rfl (fun g1 => ?_) (fun g1 => ?_)
  ·
    refine WL.no rfl rfl (decide_eq_true g1) ?_
    refine WL.no rfl rfl (decide_eq_true g1) ?_
    refine WL.no rfl rfl (decide_eq_true g1) ?_
    refine WL.val rfl (V_pick_td rfl g1 rfl) ?_
    refine WL.nil ?_
    refine WQ.then ?_
    refine W.cond_true rfl rfl ?_
    refine W.seq ?_
    refine W.region ?_
    refine WL.mv rfl rfl ?_
    refine WL.mv rfl rfl ?_
    refine WL.yes rfl rfl ?_
    refine WL.mv rfl rfl ?_
    refine WL.yes rfl rfl ?_
    refine WL.val rfl (V_eql rfl rfl) ?_
    refine WL.yes rfl rfl ?_
    refine WL.mv rfl rfl ?_
    refine WL.yes rfl rfl ?_
    refine WL.val rfl (V_neqP (by kernel_rfl) rfl rfl) ?_
    refine WL.yes rfl rfl ?_
    refine WL.val rfl (V_eqlB (by kernel_rfl) rfl rfl) ?_
    refine WL.val rfl (V_pick_t rfl rfl rfl) ?_
    refine WL.as rfl rfl ?_
    refine WL.nil ?_
    refine WQ.then ?_
    refine W.ret ?_
    refine WQ.then_ret ?_
    refine WQ.ret1 Try.results7 (.tmp rfl) ?_
    intro w' hp; exact ⟨rfl, hp.forget⟩
  ·
    refine WL.yes rfl (decide_eq_false g1) ?_
    refine WL.mv rfl rfl ?_
    refine WL.yes rfl (decide_eq_false g1) ?_
    refine WL.val rfl (V_lenS (by kernel_rfl) rfl) ?_
    refine WL.yes rfl (decide_eq_false g1) ?_
    refine WL.val rfl (V_gtr rfl rfl) ?_
    refine WL.val rfl (V_pick_fd rfl g1 rfl) ?_
    refine WL.nil ?_
    refine WQ.then ?_
    refine W.cond_dec rfl (fun g2 => ?_) (fun g2 => ?_)
    ·
      refine W.seq ?_
      refine W.region ?_
      refine WL.mv rfl rfl ?_
      refine WL.mv rfl rfl ?_
      refine WL.yes rfl rfl ?_
      refine WL.mv rfl rfl ?_
      refine WL.yes rfl rfl ?_
      refine WL.val rfl (V_eql rfl rfl) ?_
      refine WL.yes rfl rfl ?_
      refine WL.mv rfl rfl ?_
      refine WL.yes rfl rfl ?_
      refine WL.val rfl (V_neqP (by kernel_rfl) rfl rfl) ?_
      refine WL.yes rfl rfl ?_
      refine WL.val rfl (V_eqlB (by kernel_rfl) rfl rfl) ?_
      refine WL.val rfl (V_pick_t rfl rfl rfl) ?_
      refine WL.as rfl rfl ?_
      refine WL.nil ?_
      refine WQ.then ?_
      refine W.ret ?_
      refine WQ.then_ret ?_
      refine WQ.ret1 Try.results7 (.tmp rfl) ?_
      intro w' hp; exact ⟨rfl, hp.forget⟩
    ·
      refine W.skip ?_
      refine WQ.then ?_
      refine W.seq ?_
      refine W.region ?_
      refine WL.as rfl rfl ?_
      refine WL.nil ?_
      refine WQ.then ?_
      refine W.seq ?_
      refine W.seq ?_
      refine W.region ?_
      refine WL.as rfl rfl ?_
      refine WL.nil ?_
      refine WQ.then ?_
      refine W.block ?_
      -- LOOP
      refine W.pick [0, 2, 7, 8, 10, 11] rfl ?_
      refine W.loop (σ := Nat × Int × Int × Int) (fun s => s.1 ≤ len ∧ OkB most every s.2.2.1 s.2.2.2 ∧ s.2.2.1 ≤ s.2.1 ∧ s.2.1 ≤ 1000 * s.1) (fun s => [(0, .int .i64 most), (2, .slice A len cap), (7, .bool true), (8, .pointer (some ⟨b18, 0, none⟩)), (10, .int .i64 s.2.1), (11, .int .i64 s.1)]) (fun s => [(b18, .cells (bkt most every s.2.2.1 s.2.2.2) 43)]) (fun s => len - s.1) (0, 0, 0, most) rfl rfl ⟨Nat.zero_le _, hm.ok, by simp, by simp⟩ ?_
      rintro ⟨i, now, t, n⟩ ⟨hi, hk, hnow, hnow2⟩; dsimp only at hi hk hnow hnow2 ⊢; have ht0 := hk.t1
      refine W.seq ?_
      refine W.seq ?_
      refine W.region ?_
      refine WL.mv rfl rfl ?_
      refine WL.mv rfl rfl ?_
      refine WL.val rfl (V_lenS (by kernel_rfl) rfl) ?_
      refine WL.val rfl (V_lss rfl rfl) ?_
      refine WL.nil ?_
      refine WQ.then ?_
      refine W.cond_dec rfl (fun g3 => ?_) (fun g3 => ?_)
      ·
        refine W.skip ?_
        refine WQ.then ?_
        refine W.seq ?_
        refine W.block ?_
        refine W.seq ?_
        refine W.seq ?_
        refine W.region ?_
        obtain ⟨bb, oo, pre, post, rfl, hA⟩ := hl (by omega)
        refine WL.mv rfl rfl ?_
        refine WL.mv rfl rfl ?_
        refine WL.val rfl (V_indexAddrS 1 (by kernel_rfl) rfl rfl (by omega) (by omega)) ?_
        refine WL.val rfl (V_loadInt (k := .i64) (zs := zs) i (by kernel_rfl) rfl (hA.at (by simp)) (by simp) (by omega)) ?_
        refine WL.val rfl (V_lss rfl rfl) ?_
        refine WL.mv rfl rfl ?_
        refine WL.splitD rfl (fun g4 => ?_) (fun g4 => ?_)
        ·
          refine WL.no rfl rfl (decide_eq_true g4) ?_
          refine WL.no rfl rfl (decide_eq_true g4) ?_
          refine WL.no rfl rfl (decide_eq_true g4) ?_
          refine WL.no rfl rfl (decide_eq_true g4) ?_
          refine WL.no rfl rfl (decide_eq_true g4) ?_
          refine WL.val rfl (V_pick_td rfl g4 rfl) ?_
          refine WL.nil ?_
          refine WQ.then ?_
          refine W.cond_true rfl rfl ?_
          refine W.seq ?_
          refine W.region ?_
          refine WL.mv rfl rfl ?_
          refine WL.as rfl rfl ?_
          refine WL.nil ?_
          refine WQ.then ?_
          refine W.ret ?_
          refine WQ.then_ret ?_
          refine WQ.block_ret ?_
          refine WQ.then_ret ?_
          refine WQ.then_ret ?_
          refine WQ.block_ret ?_
          refine WQ.then_ret ?_
          refine WQ.ret1 Try.results7 (.tmp rfl) ?_
          intro w' hp; exact ⟨rfl, hp.forget⟩
        ·
          refine WL.yes rfl (decide_eq_false g4) ?_
          refine WL.mv rfl rfl ?_
          refine WL.yes rfl (decide_eq_false g4) ?_
          refine WL.mv rfl rfl ?_
          refine WL.yes rfl (decide_eq_false g4) ?_
          refine WL.val rfl (V_indexAddrS 1 (by kernel_rfl) rfl rfl (by omega) (by omega)) ?_
          refine WL.yes rfl (decide_eq_false g4) ?_
          refine WL.val rfl (V_loadInt (k := .i64) (zs := zs) i (by kernel_rfl) rfl (hA.at (by simp)) (by simp) (by omega)) ?_
          refine WL.yes rfl (decide_eq_false g4) ?_
          refine WL.val rfl (V_gtr rfl rfl) ?_
          refine WL.val rfl (V_pick_fd rfl g4 rfl) ?_
          refine WL.nil ?_
          refine WQ.then ?_
          refine W.cond_dec rfl (fun g5 => ?_) (fun g5 => ?_)
          ·
            refine W.seq ?_
            refine W.region ?_
            refine WL.mv rfl rfl ?_
            refine WL.as rfl rfl ?_
            refine WL.nil ?_
            refine WQ.then ?_
            refine W.ret ?_
            refine WQ.then_ret ?_
            refine WQ.block_ret ?_
            refine WQ.then_ret ?_
            refine WQ.then_ret ?_
            refine WQ.block_ret ?_
            refine WQ.then_ret ?_
            refine WQ.ret1 Try.results7 (.tmp rfl) ?_
            intro w' hp; exact ⟨rfl, hp.forget⟩
          ·
            refine W.skip ?_
            refine WQ.then ?_
            refine W.seq ?_
            refine W.region ?_
            refine WL.mv rfl rfl ?_
            refine WL.mv rfl rfl ?_
            refine WL.mv rfl rfl ?_
            refine WL.val rfl (V_indexAddrS 1 (by kernel_rfl) rfl rfl (by omega) (by omega)) ?_
            refine WL.val rfl (V_loadInt (k := .i64) (zs := zs) i (by kernel_rfl) rfl (hA.at (by simp)) (by simp) (by omega)) ?_
            first | refine WL.val rfl (V_addN rfl rfl (by omega)) ?_ | refine WL.val rfl (V_add rfl rfl) ?_
            refine WL.as rfl rfl ?_
            refine WL.nil ?_
            refine WQ.then ?_
            refine W.seq ?_
            refine W.region ?_
            obtain ⟨N, hN⟩ : ∃ N, N = now + zs i := ⟨_, rfl⟩; rw [← hN]; have F := step_facts (now := N) hk (by omega) (by omega)
            refine WL.mv rfl rfl ?_
            refine WL.mv rfl rfl ?_
            refine WL.pure _ rfl (by kernel_rfl) rfl (fun w hp => has_calls b18 most every t n _ w (At.hp (by repeat (first | exact At.head | exact AtW.at ‹_› (by simp) | apply At.tail)) hp) hk) ?_
            refine WL.as rfl rfl ?_
            refine WL.nil ?_
            refine WQ.then ?_
            refine W.seq ?_
            refine W.seq ?_
            refine W.region ?_
            refine WL.mv rfl rfl ?_
            refine WL.mv rfl rfl ?_
            refine WL.mv rfl rfl ?_
            refine WL.pure _ rfl (by kernel_rfl) rfl (fun w hp => has_calls b18 most every t n _ w (At.hp (by repeat (first | exact At.head | exact AtW.at ‹_› (by simp) | apply At.tail)) hp) hk) ?_
            refine WL.val rfl (V_neq rfl rfl) ?_
            refine WL.mv rfl rfl ?_
            refine WL.yes rfl (by simp) ?_
            refine WL.mv rfl rfl ?_
            refine WL.yes rfl (by simp) ?_
            refine WL.val rfl (V_lss rfl rfl) ?_
            refine WL.val rfl (V_pick_f rfl (by simp) rfl) ?_
            refine WL.mv rfl rfl ?_
            refine WL.yes rfl (decide_eq_false (by omega)) ?_
            refine WL.mv rfl rfl ?_
            refine WL.yes rfl (decide_eq_false (by omega)) ?_
            refine WL.mv rfl rfl ?_
            refine WL.yes rfl (decide_eq_false (by omega)) ?_
            refine WL.val rfl (V_gtr rfl rfl) ?_
            refine WL.val rfl (V_pick_f rfl (decide_eq_false (by omega)) rfl) ?_
            refine WL.nil ?_
            refine WQ.then ?_
            refine W.cond_false rfl (decide_eq_false (by omega)) ?_
            refine W.skip ?_
            refine WQ.then ?_
            refine W.seq ?_
            refine W.seq ?_
            refine W.region ?_
            refine WL.mv rfl rfl ?_
            first | refine WL.val rfl (V_remN rfl rfl (by omega) (by omega)) ?_ | refine WL.val rfl (V_rem rfl rfl (by omega)) ?_
            refine WL.val rfl (V_eql rfl rfl) ?_
            refine WL.nil ?_
            refine WQ.then ?_
            refine W.cond_dec rfl (fun g6 => ?_) (fun g6 => ?_)
            ·
              refine W.exit ?_
              refine WQ.then_exit ?_
              refine WQ.block_hit ?_
              refine WQ.then ?_
              refine W.region ?_
              refine WL.mv rfl rfl ?_
              first | refine WL.val rfl (V_addN rfl rfl (by omega)) ?_ | refine WL.val rfl (V_add rfl rfl) ?_
              refine WL.as rfl rfl ?_
              refine WL.nil ?_
              exact WQ.again (i + 1, N, t, n) [0, 2, 7, 8, 10, 11] (by refine ⟨by omega, hk, by (try dsimp only); omega, by push_cast; (try dsimp only); omega⟩) (by show len - (i + 1) < len - i; omega) rfl (by repeat (first | exact List.Sublist.refl _ | exact List.nil_sublist _ | refine List.Sublist.cons_cons _ ?_ | refine List.Sublist.cons _ ?_))
            ·
              refine W.skip ?_
              refine WQ.then ?_
              refine W.seq ?_
              refine W.seq ?_
              refine W.region ?_
              refine WL.as rfl rfl ?_
              refine WL.nil ?_
              refine WQ.then ?_
              refine W.block ?_
              -- LOOP
              refine W.pick [0, 2, 7, 8, 10, 11, 12, 13] rfl ?_
              refine W.loop (σ := Int × Int × Int) (fun s => 0 ≤ s.1 ∧ s.1 ≤ hasF most every t n N ∧ OkB most every s.2.1 s.2.2 ∧ s.2.1 ≤ N ∧ hasF most every s.2.1 s.2.2 N = hasF most every t n N - s.1) (fun s => [(0, .int .i64 most), (2, .slice (some ⟨bb, oo, none⟩) len cap), (7, .bool true), (8, .pointer (some ⟨b18, 0, none⟩)), (10, .int .i64 N), (11, .int .i64 i), (12, .int .i64 (hasF most every t n N)), (13, .int .i64 s.1)]) (fun s => [(b18, .cells (bkt most every s.2.1 s.2.2) 43)]) (fun s => (hasF most every t n N - s.1).toNat) (0, t, n) rfl rfl ⟨by simp, by (try dsimp only); omega, hk, by (try dsimp only); omega, by simp⟩ ?_
              rintro ⟨k, t2, n2⟩ ⟨h0k, hkn, hk2, ht2, hh⟩; dsimp only at h0k hkn hk2 ht2 hh ⊢
              refine W.seq ?_
              refine W.seq ?_
              refine W.region ?_
              refine WL.mv rfl rfl ?_
              refine WL.mv rfl rfl ?_
              refine WL.val rfl (V_lss rfl rfl) ?_
              refine WL.nil ?_
              refine WQ.then ?_
              refine W.cond_dec rfl (fun g7 => ?_) (fun g7 => ?_)
              ·
                refine W.skip ?_
                refine WQ.then ?_
                refine W.seq ?_
                refine W.block ?_
                refine W.seq ?_
                refine W.region ?_
                refine WL.mv rfl rfl ?_
                refine WL.mv rfl rfl ?_
                refine WL.mod _ rfl (by kernel_rfl) rfl (by repeat (first | exact Upd.here _ _ | apply Upd.there)) (fun w hp => take_calls b18 most every t2 n2 _ 43 w (hp.held (b18, .cells (bkt most every t2 n2) 43) (by simp)) hk2) ?_
                have F2 := asks1 hk2 ht2 (by omega) hh (by omega)
                refine WL.val rfl (V_neq rfl rfl) ?_
                refine WL.nil ?_
                refine WQ.then ?_
                refine W.cond_false rfl (by rw [F2.1]; rfl) ?_
                refine W.skip ?_
                refine WQ.block_normal ?_
                refine WQ.then ?_
                refine W.region ?_
                refine WL.mv rfl rfl ?_
                first | refine WL.val rfl (V_addN rfl rfl (by omega)) ?_ | refine WL.val rfl (V_add rfl rfl) ?_
                refine WL.as rfl rfl ?_
                refine WL.nil ?_
                exact WQ.again (k + 1, takeT t2 N, takeN most every t2 n2 N) [0, 2, 7, 8, 10, 11, 12, 13] (by refine ⟨by omega, by (try dsimp only); omega, hk2.take _, ?_⟩; rw [F2.2.1]; exact ⟨by simp, by rw [F2.2.2]; dsimp only; omega⟩) (by show (_ - (k + 1)).toNat < (_ - k).toNat; omega) rfl (by repeat (first | exact List.Sublist.refl _ | exact List.nil_sublist _ | refine List.Sublist.cons_cons _ ?_ | refine List.Sublist.cons _ ?_))
              ·
                refine W.exit ?_
                refine WQ.then_exit ?_
                refine WQ.then_exit ?_
                refine WQ.block_hit ?_
                refine WQ.then ?_
                refine W.seq ?_
                refine W.region ?_
                have hl0 : hasF most every t2 n2 N = 0 := by omega
                have F3 := asks2 hk2 ht2 (by omega) hl0
                refine WL.mv rfl rfl ?_
                refine WL.mv rfl rfl ?_
                refine WL.pure _ rfl (by kernel_rfl) rfl (fun w hp => has_calls b18 most every t2 n2 _ w (At.hp (by repeat (first | exact At.head | exact AtW.at ‹_› (by simp) | apply At.tail)) hp) hk2) ?_
                refine WL.val rfl (V_neq rfl rfl) ?_
                refine WL.mv rfl rfl ?_
                refine WL.yes rfl (by rw [hl0]; rfl) ?_
                refine WL.mv rfl rfl ?_
                refine WL.yes rfl (by rw [hl0]; rfl) ?_
                refine WL.mv rfl rfl ?_
                refine WL.yes rfl (by rw [hl0]; rfl) ?_
                refine WL.mod _ rfl (by kernel_rfl) rfl (by repeat (first | exact Upd.here _ _ | apply Upd.there)) (fun w hp => take_calls b18 most every t2 n2 _ 43 w (hp.held (b18, .cells (bkt most every t2 n2) 43) (by simp)) hk2) ?_
                refine WL.yes rfl (by rw [hl0]; rfl) ?_
                refine WL.val rfl (V_neq rfl rfl) ?_
                refine WL.val rfl (V_pick_f rfl (by rw [hl0]; rfl) rfl) ?_
                refine WL.nil ?_
                refine WQ.then ?_
                refine W.cond_false rfl (by rw [F3.1]; rfl) ?_
                refine W.skip ?_
                refine WQ.block_normal ?_
                refine WQ.then ?_
                refine W.region ?_
                refine WL.mv rfl rfl ?_
                first | refine WL.val rfl (V_addN rfl rfl (by omega)) ?_ | refine WL.val rfl (V_add rfl rfl) ?_
                refine WL.as rfl rfl ?_
                refine WL.nil ?_
                exact WQ.again (i + 1, N, takeT t2 N, takeN most every t2 n2 N) [0, 2, 7, 8, 10, 11] (by refine ⟨by omega, hk2.take _, by (try dsimp only); omega, by push_cast; (try dsimp only); omega⟩) (by show len - (i + 1) < len - i; omega) rfl (by repeat (first | exact List.Sublist.refl _ | exact List.nil_sublist _ | refine List.Sublist.cons_cons _ ?_ | refine List.Sublist.cons _ ?_))
      ·
        refine W.exit ?_
        refine WQ.then_exit ?_
        refine WQ.then_exit ?_
        refine WQ.block_hit ?_
        refine WQ.then ?_
        refine W.seq ?_
        refine W.region ?_
        refine WL.mv rfl rfl ?_
        refine WL.as rfl rfl ?_
        refine WL.nil ?_
        refine WQ.then ?_
        refine W.ret ?_
        refine WQ.ret1 Try.results7 (.tmp rfl) ?_
        intro w' hp; exact ⟨rfl, hp.forget⟩

theorem asks_callsBad (most every : Int) (A : Option Addr) (len cap : Nat) (w : World) (hm : ¬ mayB most every) :
    Calls Try.prog 7 [.int .i64 most, .int .i64 every, .slice A len cap].toArray w fun e w' => e = .returned (.bool true) ∧ HP w w' [] [] := by
  refine calls_of_W Try.func7 rfl Try.ntmps7 rfl rfl (HP.refl w []) ?_
  refine W.seq ?_
  refine W.region ?_
  refine WL.as rfl rfl ?_
  refine WL.nil ?_
  refine WQ.then ?_
  refine W.seq ?_
  refine W.region ?_
  refine WL.pure _ rfl (by kernel_rfl) rfl (fun w hp => awake_calls w) ?_
  refine WL.as rfl rfl ?_
  refine WL.nil ?_
  refine WQ.then ?_
  refine W.seq ?_
  refine W.region ?_
  refine WL.mv rfl rfl ?_
  refine WL.mv rfl rfl ?_
  refine WL.pure _ rfl (by kernel_rfl) rfl (fun w hp => newbad_calls most every w hm) ?_
  refine WL.mv rfl rfl ?_
  refine WL.val rfl (V_extract rfl rfl) ?_
  refine WL.val rfl (V_extract rfl rfl) ?_
  refine WL.as rfl rfl ?_
  refine WL.as rfl rfl ?_
  refine WL.nil ?_
  refine WQ.then ?_
  refine W.seq ?_
  refine W.seq ?_
  refine W.region ?_
  refine WL.mv rfl rfl ?_
  refine WL.val rfl (V_eqlP (by kernel_rfl) rfl rfl) ?_
  refine WL.mv rfl rfl ?_
  refine WL.no rfl rfl rfl ?_
  refine WL.no rfl rfl rfl ?_
  refine WL.val rfl (V_pick_t rfl rfl rfl) ?_
  refine WL.mv rfl rfl ?_
  refine WL.no rfl rfl rfl ?_
  refine WL.no rfl rfl rfl ?_
  refine WL.no rfl rfl rfl ?_
  refine WL.val rfl (V_pick_t rfl rfl rfl) ?_
  refine WL.nil ?_
  refine WQ.then ?_
  refine W.cond_true rfl rfl ?_
  refine W.seq ?_
  refine W.region ?_
  refine WL.mv rfl rfl ?_
  refine WL.mv rfl rfl ?_
  refine WL.yes rfl rfl ?_
  refine WL.mv rfl rfl ?_
  refine WL.yes rfl rfl ?_
  refine WL.val rfl (V_eql rfl rfl) ?_
  refine WL.yes rfl rfl ?_
  refine WL.mv rfl rfl ?_
  refine WL.yes rfl rfl ?_
  refine WL.val rfl (V_neqP (by kernel_rfl) rfl rfl) ?_
  refine WL.yes rfl rfl ?_
  refine WL.val rfl (V_eqlB (by kernel_rfl) rfl rfl) ?_
  refine WL.val rfl (V_pick_t rfl rfl rfl) ?_
  refine WL.as rfl rfl ?_
  refine WL.nil ?_
  refine WQ.then ?_
  refine W.ret ?_
  refine WQ.then_ret ?_
  refine WQ.ret1 Try.results7 (.tmp rfl) ?_
  intro w' hp; exact ⟨rfl, hp.forget⟩

end Go.Proofs.Ytlkmdhajfkkppaa