/- BucketFew: its walk. -/
import Derived.Test.YtlkmdhajfkkppaaPlays
namespace Go.Proofs.Ytlkmdhajfkkppaa
open Go.X
/-- What one look and one taking come to. -/
theorem step_facts {m e t n now : Int} (h : OkB m e t n) (h1 : t ≤ now) (h2 : now ≤ 1000000) :
    (takeE m e t n now = 0 ∧ 0 < hasF m e t n now ∧ takeN m e t n now + 1 = hasF m e t n now ∨ takeE m e t n now = 10 ∧ hasF m e t n now = 0 ∧ takeN m e t n now = hasF m e t n now) ∧ 0 ≤ hasF m e t n now ∧ hasF m e t n now ≤ m ∧ takeT t now = now ∧ hasF m e t n now ≤ n + (now / e - t / e) := by
  have hb := lvF_bd h h1
  have h3 : lvF m e t n now ≤ n + (now / e - t / e) := by unfold lvF; omega
  unfold takeE takeN takeT hasF
  simp only [show ¬ 1000000 < now from by omega, show ¬ now < t from by omega, or_self, if_false]
  generalize lvF m e t n now = l at *
  by_cases hl : l = 0
  · subst hl; simp; omega
  · simp only [hl, if_false]; refine ⟨.inl ⟨trivial, by omega, by omega⟩, by omega, by omega, trivial, by omega⟩

theorem few_calls (most every : Int) (A : Option Addr) (len cap : Nat) (zs : Nat → Int) (w : World) (hl : Ints w A len .u8 zs) (hz : ∀ i, i < len → 0 ≤ zs i ∧ zs i ≤ 255) (hn : (len : Int) ≤ 9223372036854775807) (hm : mayB most every) :
    Calls Try.prog 4 [.int .i64 most, .int .i64 every, .slice A len cap].toArray w fun e w' => e = .returned (.bool true) ∧ HP w w' [] [] := by
  refine calls_of_W Try.func4 rfl Try.ntmps4 rfl rfl (HP.refl w []) ?_
  refine W.seq ?_
  refine W.region ?_
  refine WL.as rfl rfl ?_
  refine WL.nil ?_
  refine WQ.then ?_
  refine W.seq ?_
  refine W.region ?_
  refine WL.pure _ rfl (by kernel_rfl) rfl (fun w hp => awake_calls w) ?_
  refine WL.as rfl rfl ?_
  refine WL.nil ?_
  refine WQ.then ?_
  refine W.seq ?_
  refine W.region ?_
  refine WL.mv rfl rfl ?_
  refine WL.mv rfl rfl ?_
  refine WL.call [] (fun r => .tuple #[.pointer (some ⟨r, 0, none⟩), .int .i64 0]) (fun r => [(r, .cells (bkt most every 0 most) 43)]) (fun _ => True) rfl (by kernel_rfl) rfl (.nil _) (fun w hp => new_calls most every w hm) ?_; intro b19 _
  refine WL.mv rfl rfl ?_
  refine WL.val rfl (V_extract rfl rfl) ?_
  refine WL.val rfl (V_extract rfl rfl) ?_
  refine WL.as rfl rfl ?_
  refine WL.as rfl rfl ?_
  refine WL.nil ?_
  refine WQ.then ?_
  refine W.seq ?_
  refine W.seq ?_
  refine W.region ?_
  refine WL.mv rfl rfl ?_
  refine WL.val rfl (V_eqlP (by kernel_rfl) rfl rfl) ?_
  refine WL.mv rfl rfl ?_
  refine WL.yes rfl rfl ?_
  refine WL.mv rfl rfl ?_
  refine WL.yes rfl rfl ?_
  refine WL.val rfl (V_lenS (by kernel_rfl) rfl) ?_
  refine WL.yes rfl rfl ?_
  refine WL.val rfl (V_gtr rfl rfl) ?_
  refine WL.val rfl (V_pick_f rfl rfl rfl) ?_
  refine WL.nil ?_
  refine WQ.then ?_
  refine W.cond_dec rfl (fun g1 => ?_) (fun g1 => ?_)
  ·
    refine W.seq ?_
    refine W.region ?_
    refine WL.mv rfl rfl ?_
    refine WL.mv rfl rfl ?_
    refine WL.yes rfl rfl ?_
    refine WL.mv rfl rfl ?_
    refine WL.yes rfl rfl ?_
    refine WL.val rfl (V_eql rfl rfl) ?_
    refine WL.yes rfl rfl ?_
    refine WL.mv rfl rfl ?_
    refine WL.yes rfl rfl ?_
    refine WL.val rfl (V_neqP (by kernel_rfl) rfl rfl) ?_
    refine WL.yes rfl rfl ?_
    refine WL.val rfl (V_eqlB (by kernel_rfl) rfl rfl) ?_
    refine WL.val rfl (V_pick_t rfl rfl rfl) ?_
    refine WL.as rfl rfl ?_
    refine WL.nil ?_
    refine WQ.then ?_
    refine W.ret ?_
    refine WQ.then_ret ?_
    refine WQ.ret1 Try.results4 (.tmp rfl) ?_
    intro w' hp; exact ⟨rfl, hp.forget⟩
  ·
    refine W.skip ?_
    refine WQ.then ?_
    refine W.seq ?_
    refine W.region ?_
    refine WL.as rfl rfl ?_
    refine WL.nil ?_
    refine WQ.then ?_
    refine W.seq ?_
    refine W.region ?_
    refine WL.as rfl rfl ?_
    refine WL.nil ?_
    refine WQ.then ?_
    refine W.seq ?_
    refine W.seq ?_
    refine W.region ?_
    refine WL.as rfl rfl ?_
    refine WL.nil ?_
    refine WQ.then ?_
    refine W.block ?_
    -- LOOP
    refine W.pick [0, 1, 2, 7, 8, 10, 11, 12] rfl ?_
    refine W.loop (σ := Nat × Int × Int × Int × Int) (fun s => s.1 ≤ len ∧ OkB most every s.2.2.2.1 s.2.2.2.2 ∧ s.2.2.2.1 ≤ s.2.1 ∧ s.2.1 ≤ 19 * s.1 ∧ 0 ≤ s.2.2.1 ∧ s.2.2.1 ≤ s.1 ∧ s.2.2.1 + s.2.2.2.2 ≤ most + s.2.2.2.1 / every ∧ s.2.2.2.1 / every ≤ s.2.1 / every) (fun s => [(0, .int .i64 most), (1, .int .i64 every), (2, .slice A len cap), (7, .bool true), (8, .pointer (some ⟨b19, 0, none⟩)), (10, .int .i64 s.2.1), (11, .int .i64 s.2.2.1), (12, .int .i64 s.1)]) (fun s => [(b19, .cells (bkt most every s.2.2.2.1 s.2.2.2.2) 43)]) (fun s => len - s.1) (0, 0, 0, 0, most) rfl rfl ⟨Nat.zero_le _, hm.ok, by simp, by simp, by simp, by simp, by simp, by simp⟩ ?_
    rintro ⟨i, now, taken, t, n⟩ ⟨hi, hk, hnow, hnow2, ht1, ht2, hin, hdv⟩; dsimp only at hi hk hnow hnow2 ht1 ht2 hin hdv ⊢
    refine W.seq ?_
    refine W.seq ?_
    refine W.region ?_
    refine WL.mv rfl rfl ?_
    refine WL.mv rfl rfl ?_
    refine WL.val rfl (V_lenS (by kernel_rfl) rfl) ?_
    refine WL.val rfl (V_lss rfl rfl) ?_
    refine WL.nil ?_
    refine WQ.then ?_
    refine W.cond_dec rfl (fun g2 => ?_) (fun g2 => ?_)
    ·
      refine W.skip ?_
      refine WQ.then ?_
      refine W.seq ?_
      refine W.block ?_
      refine W.seq ?_
      refine W.region ?_
      obtain ⟨bb, oo, pre, post, rfl, hA⟩ := hl (by omega); have hzi := hz i (by omega); have ht0 := hk.t1; have hn0 := hk.n1; have F := step_facts (now := now + zs i % 20) hk (by omega) (by omega)
      refine WL.mv rfl rfl ?_
      refine WL.mv rfl rfl ?_
      refine WL.mv rfl rfl ?_
      refine WL.val rfl (V_indexAddrS 1 (by kernel_rfl) rfl rfl (by omega) (by omega)) ?_
      refine WL.val rfl (V_loadInt (k := .u8) (zs := zs) i (by kernel_rfl) rfl (hA.at (by simp)) (by simp) (by omega)) ?_
      refine WL.val rfl (V_convN (k' := .i64) rfl (by kernel_rfl) (by kernel_rfl) (IntWalk.i64_in _ (by omega))) ?_
      first | refine WL.val rfl (V_remN rfl rfl (by omega) (by omega)) ?_ | refine WL.val rfl (V_rem rfl rfl (by omega)) ?_
      first | refine WL.val rfl (V_addN rfl rfl (by omega)) ?_ | refine WL.val rfl (V_add rfl rfl) ?_
      refine WL.as rfl rfl ?_
      refine WL.nil ?_
      refine WQ.then ?_
      refine W.seq ?_
      refine W.region ?_
      refine WL.mv rfl rfl ?_
      refine WL.mv rfl rfl ?_
      refine WL.pure _ rfl (by kernel_rfl) rfl (fun w hp => has_calls b19 most every t n _ w (At.hp (by repeat (first | exact At.head | exact AtW.at ‹_› (by simp) | apply At.tail)) hp) hk) ?_
      refine WL.as rfl rfl ?_
      refine WL.nil ?_
      refine WQ.then ?_
      refine W.seq ?_
      refine W.region ?_
      refine WL.mv rfl rfl ?_
      refine WL.mv rfl rfl ?_
      refine WL.mod _ rfl (by kernel_rfl) rfl (by repeat (first | exact Upd.here _ _ | apply Upd.there)) (fun w hp => take_calls b19 most every t n _ 43 w (hp.held (b19, .cells (bkt most every t n) 43) (by simp)) hk) ?_
      refine WL.as rfl rfl ?_
      refine WL.nil ?_
      refine WQ.then ?_
      refine W.seq ?_
      refine W.seq ?_
      refine W.region ?_
      refine WL.mv rfl rfl ?_
      refine WL.val rfl (V_eql rfl rfl) ?_
      refine WL.nil ?_
      refine WQ.then ?_
      refine W.cond_dec rfl (fun g3 => ?_) (fun g3 => ?_)
      ·
        refine W.region ?_
        refine WL.mv rfl rfl ?_
        first | refine WL.val rfl (V_addN rfl rfl (by omega)) ?_ | refine WL.val rfl (V_add rfl rfl) ?_
        refine WL.as rfl rfl ?_
        refine WL.nil ?_
        refine WQ.then ?_
        refine W.seq ?_
        refine W.region ?_
        refine WL.mv rfl rfl ?_
        refine WL.val rfl (V_eql rfl rfl) ?_
        refine WL.mv rfl rfl ?_
        refine WL.val rfl (V_gtr rfl rfl) ?_
        refine WL.val rfl (V_neqB (by kernel_rfl) rfl rfl) ?_
        refine WL.mv rfl rfl ?_
        refine WL.yes rfl (by rcases F.1 with ⟨h1, h2, _⟩ | ⟨h1, h2, _⟩ <;> simp [h1, h2]) ?_
        refine WL.mv rfl rfl ?_
        refine WL.yes rfl (by rcases F.1 with ⟨h1, h2, _⟩ | ⟨h1, h2, _⟩ <;> simp [h1, h2]) ?_
        refine WL.val rfl (V_neq rfl rfl) ?_
        refine WL.yes rfl (by rcases F.1 with ⟨h1, h2, _⟩ | ⟨h1, h2, _⟩ <;> simp [h1, h2]) ?_
        refine WL.mv rfl rfl ?_
        refine WL.splitD rfl (fun g4 => ?_) (fun g4 => ?_)
        ·
          refine WL.yes rfl (decide_eq_true g4) ?_
          refine WL.mv rfl rfl ?_
          refine WL.yes rfl (decide_eq_true g4) ?_
          refine WL.val rfl (V_neq rfl rfl) ?_
          refine WL.yes rfl (by rcases F.1 with ⟨h1, h2, _⟩ | ⟨h1, h2, _⟩ <;> simp [h1, h2]) ?_
          refine WL.val rfl (V_pick_td rfl g4 rfl) ?_
          refine WL.val rfl (V_pick_f rfl (by rcases F.1 with ⟨h1, h2, _⟩ | ⟨h1, h2, _⟩ <;> simp [h1, h2]) rfl) ?_
          refine WL.mv rfl rfl ?_
          refine WL.yes rfl (decide_eq_false (by omega)) ?_
          refine WL.mv rfl rfl ?_
          refine WL.yes rfl (decide_eq_false (by omega)) ?_
          refine WL.mv rfl rfl ?_
          refine WL.yes rfl (decide_eq_false (by omega)) ?_
          refine WL.val rfl (V_gtr rfl rfl) ?_
          refine WL.val rfl (V_pick_f rfl (decide_eq_false (by omega)) rfl) ?_
          refine WL.mv rfl rfl ?_
          refine WL.yes rfl (decide_eq_false (by omega)) ?_
          refine WL.mv rfl rfl ?_
          refine WL.yes rfl (decide_eq_false (by omega)) ?_
          refine WL.val rfl (V_lss rfl rfl) ?_
          refine WL.val rfl (V_pick_f rfl (decide_eq_false (by omega)) rfl) ?_
          refine WL.nil ?_
          refine WQ.then ?_
          refine W.cond_false rfl (decide_eq_false (by omega)) ?_
          refine W.skip ?_
          refine WQ.block_normal ?_
          refine WQ.then ?_
          refine W.region ?_
          refine WL.mv rfl rfl ?_
          first | refine WL.val rfl (V_addN rfl rfl (by omega)) ?_ | refine WL.val rfl (V_add rfl rfl) ?_
          refine WL.as rfl rfl ?_
          refine WL.nil ?_
          exact WQ.again (i + 1, now + zs i % 20, taken + 1, takeT t (now + zs i % 20), takeN most every t n (now + zs i % 20)) [0, 1, 2, 7, 8, 10, 11, 12] (by refine ⟨by omega, hk.take _, ?_⟩; rw [F.2.2.2.1]; (try dsimp only); refine ⟨by omega, by push_cast; omega, by omega, by push_cast; omega, by omega, by omega⟩) (by show len - (i + 1) < len - i; omega) rfl (by repeat (first | exact List.Sublist.refl _ | exact List.nil_sublist _ | refine List.Sublist.cons_cons _ ?_ | refine List.Sublist.cons _ ?_))
        ·
          refine WL.no rfl rfl (decide_eq_false g4) ?_
          refine WL.no rfl rfl (decide_eq_false g4) ?_
          refine WL.yes rfl (by rcases F.1 with ⟨h1, h2, _⟩ | ⟨h1, h2, _⟩ <;> simp [h1, h2]) ?_
          refine WL.val rfl (V_pick_fd rfl g4 rfl) ?_
          refine WL.val rfl (V_pick_f rfl (by rcases F.1 with ⟨h1, h2, _⟩ | ⟨h1, h2, _⟩ <;> simp [h1, h2]) rfl) ?_
          refine WL.mv rfl rfl ?_
          refine WL.yes rfl rfl ?_
          refine WL.mv rfl rfl ?_
          refine WL.yes rfl rfl ?_
          refine WL.mv rfl rfl ?_
          refine WL.yes rfl rfl ?_
          refine WL.val rfl (V_gtr rfl rfl) ?_
          refine WL.val rfl (V_pick_f rfl rfl rfl) ?_
          refine WL.mv rfl rfl ?_
          refine WL.yes rfl (decide_eq_false (by omega)) ?_
          refine WL.mv rfl rfl ?_
          refine WL.yes rfl (decide_eq_false (by omega)) ?_
          refine WL.val rfl (V_lss rfl rfl) ?_
          refine WL.val rfl (V_pick_f rfl (decide_eq_false (by omega)) rfl) ?_
          refine WL.nil ?_
          refine WQ.then ?_
          refine W.cond_false rfl (decide_eq_false (by omega)) ?_
          refine W.skip ?_
          refine WQ.block_normal ?_
          refine WQ.then ?_
          refine W.region ?_
          refine WL.mv rfl rfl ?_
          first | refine WL.val rfl (V_addN rfl rfl (by omega)) ?_ | refine WL.val rfl (V_add rfl rfl) ?_
          refine WL.as rfl rfl ?_
          refine WL.nil ?_
          exact WQ.again (i + 1, now + zs i % 20, taken + 1, takeT t (now + zs i % 20), takeN most every t n (now + zs i % 20)) [0, 1, 2, 7, 8, 10, 11, 12] (by refine ⟨by omega, hk.take _, ?_⟩; rw [F.2.2.2.1]; (try dsimp only); refine ⟨by omega, by push_cast; omega, by omega, by push_cast; omega, by omega, by omega⟩) (by show len - (i + 1) < len - i; omega) rfl (by repeat (first | exact List.Sublist.refl _ | exact List.nil_sublist _ | refine List.Sublist.cons_cons _ ?_ | refine List.Sublist.cons _ ?_))
      ·
        refine W.skip ?_
        refine WQ.then ?_
        refine W.seq ?_
        refine W.region ?_
        refine WL.mv rfl rfl ?_
        refine WL.val rfl (V_eql rfl rfl) ?_
        refine WL.mv rfl rfl ?_
        refine WL.val rfl (V_gtr rfl rfl) ?_
        refine WL.val rfl (V_neqB (by kernel_rfl) rfl rfl) ?_
        refine WL.mv rfl rfl ?_
        refine WL.yes rfl (by rcases F.1 with ⟨h1, h2, _⟩ | ⟨h1, h2, _⟩ <;> simp [h1, h2]) ?_
        refine WL.mv rfl rfl ?_
        refine WL.yes rfl (by rcases F.1 with ⟨h1, h2, _⟩ | ⟨h1, h2, _⟩ <;> simp [h1, h2]) ?_
        refine WL.val rfl (V_neq rfl rfl) ?_
        refine WL.yes rfl (by rcases F.1 with ⟨h1, h2, _⟩ | ⟨h1, h2, _⟩ <;> simp [h1, h2]) ?_
        refine WL.mv rfl rfl ?_
        refine WL.splitD rfl (fun g5 => ?_) (fun g5 => ?_)
        ·
          refine WL.yes rfl (decide_eq_true g5) ?_
          refine WL.mv rfl rfl ?_
          refine WL.yes rfl (decide_eq_true g5) ?_
          refine WL.val rfl (V_neq rfl rfl) ?_
          refine WL.yes rfl (by rcases F.1 with ⟨h1, h2, _⟩ | ⟨h1, h2, _⟩ <;> simp [h1, h2]) ?_
          refine WL.val rfl (V_pick_td rfl g5 rfl) ?_
          refine WL.val rfl (V_pick_f rfl (by rcases F.1 with ⟨h1, h2, _⟩ | ⟨h1, h2, _⟩ <;> simp [h1, h2]) rfl) ?_
          refine WL.mv rfl rfl ?_
          refine WL.yes rfl (decide_eq_false (by omega)) ?_
          refine WL.mv rfl rfl ?_
          refine WL.yes rfl (decide_eq_false (by omega)) ?_
          refine WL.mv rfl rfl ?_
          refine WL.yes rfl (decide_eq_false (by omega)) ?_
          refine WL.val rfl (V_gtr rfl rfl) ?_
          refine WL.val rfl (V_pick_f rfl (decide_eq_false (by omega)) rfl) ?_
          refine WL.mv rfl rfl ?_
          refine WL.yes rfl (decide_eq_false (by omega)) ?_
          refine WL.mv rfl rfl ?_
          refine WL.yes rfl (decide_eq_false (by omega)) ?_
          refine WL.val rfl (V_lss rfl rfl) ?_
          refine WL.val rfl (V_pick_f rfl (decide_eq_false (by omega)) rfl) ?_
          refine WL.nil ?_
          refine WQ.then ?_
          refine W.cond_false rfl (decide_eq_false (by omega)) ?_
          refine W.skip ?_
          refine WQ.block_normal ?_
          refine WQ.then ?_
          refine W.region ?_
          refine WL.mv rfl rfl ?_
          first | refine WL.val rfl (V_addN rfl rfl (by omega)) ?_ | refine WL.val rfl (V_add rfl rfl) ?_
          refine WL.as rfl rfl ?_
          refine WL.nil ?_
          exact WQ.again (i + 1, now + zs i % 20, taken, takeT t (now + zs i % 20), takeN most every t n (now + zs i % 20)) [0, 1, 2, 7, 8, 10, 11, 12] (by refine ⟨by omega, hk.take _, ?_⟩; rw [F.2.2.2.1]; (try dsimp only); refine ⟨by omega, by push_cast; omega, by omega, by push_cast; omega, by omega, by omega⟩) (by show len - (i + 1) < len - i; omega) rfl (by repeat (first | exact List.Sublist.refl _ | exact List.nil_sublist _ | refine List.Sublist.cons_cons _ ?_ | refine List.Sublist.cons _ ?_))
        ·
          refine WL.no rfl rfl (decide_eq_false g5) ?_
          refine WL.no rfl rfl (decide_eq_false g5) ?_
          refine WL.yes rfl (by rcases F.1 with ⟨h1, h2, _⟩ | ⟨h1, h2, _⟩ <;> simp [h1, h2]) ?_
          refine WL.val rfl (V_pick_fd rfl g5 rfl) ?_
          refine WL.val rfl (V_pick_f rfl (by rcases F.1 with ⟨h1, h2, _⟩ | ⟨h1, h2, _⟩ <;> simp [h1, h2]) rfl) ?_
          refine WL.mv rfl rfl ?_
          refine WL.yes rfl rfl ?_
          refine WL.mv rfl rfl ?_
          refine WL.yes rfl rfl ?_
          refine WL.mv rfl rfl ?_
          refine WL.yes rfl rfl ?_
          refine WL.val rfl (V_gtr rfl rfl) ?_
          refine WL.val rfl (V_pick_f rfl rfl rfl) ?_
          refine WL.mv rfl rfl ?_
          refine WL.yes rfl (decide_eq_false (by omega)) ?_
          refine WL.mv rfl rfl ?_
          refine WL.yes rfl (decide_eq_false (by omega)) ?_
          refine WL.val rfl (V_lss rfl rfl) ?_
          refine WL.val rfl (V_pick_f rfl (decide_eq_false (by omega)) rfl) ?_
          refine WL.nil ?_
          refine WQ.then ?_
          refine W.cond_false rfl (decide_eq_false (by omega)) ?_
          refine W.skip ?_
          refine WQ.block_normal ?_
          refine WQ.then ?_
          refine W.region ?_
          refine WL.mv rfl rfl ?_
          first | refine WL.val rfl (V_addN rfl rfl (by omega)) ?_ | refine WL.val rfl (V_add rfl rfl) ?_
          refine WL.as rfl rfl ?_
          refine WL.nil ?_
          exact WQ.again (i + 1, now + zs i % 20, taken, takeT t (now + zs i % 20), takeN most every t n (now + zs i % 20)) [0, 1, 2, 7, 8, 10, 11, 12] (by refine ⟨by omega, hk.take _, ?_⟩; rw [F.2.2.2.1]; (try dsimp only); refine ⟨by omega, by push_cast; omega, by omega, by push_cast; omega, by omega, by omega⟩) (by show len - (i + 1) < len - i; omega) rfl (by repeat (first | exact List.Sublist.refl _ | exact List.nil_sublist _ | refine List.Sublist.cons_cons _ ?_ | refine List.Sublist.cons _ ?_))
    ·
      refine W.exit ?_
      refine WQ.then_exit ?_
      refine WQ.then_exit ?_
      refine WQ.block_hit ?_
      refine WQ.then ?_
      refine W.seq ?_
      refine W.region ?_
      refine WL.mv rfl rfl ?_
      refine WL.mv rfl rfl ?_
      refine WL.yes rfl rfl ?_
      refine WL.mv rfl rfl ?_
      refine WL.yes rfl rfl ?_
      refine WL.mv rfl rfl ?_
      have ht0 := hk.t1; have hm1 := hk.m1; have hm2 := hk.m2; have he1 := hk.e1; have hn0 := hk.n1; have hd := lvF_bd2 (now := now) hk (by omega)
      refine WL.yes rfl rfl ?_
      refine WL.mv rfl rfl ?_
      refine WL.yes rfl rfl ?_
      refine WL.mv rfl rfl ?_
      refine WL.yes rfl rfl ?_
      first | refine WL.val rfl (V_quoN rfl rfl (by omega) (by omega) (by omega)) ?_ | refine WL.val rfl (V_quo rfl rfl (by omega)) ?_
      refine WL.yes rfl rfl ?_
      first | refine WL.val rfl (V_addN rfl rfl (by omega)) ?_ | refine WL.val rfl (V_add rfl rfl) ?_
      refine WL.yes rfl rfl ?_
      refine WL.val rfl (V_leq rfl rfl) ?_
      refine WL.val rfl (V_pick_t rfl rfl rfl) ?_
      refine WL.as rfl rfl ?_
      refine WL.nil ?_
      refine WQ.then ?_
      refine W.ret ?_
      refine WQ.ret1 Try.results4 (.tmp rfl) ?_
      intro w' hp; refine ⟨?_, hp.forget⟩; rw [decide_eq_true (by omega)]

theorem few_callsBad (most every : Int) (A : Option Addr) (len cap : Nat) (w : World) (hm : ¬ mayB most every) :
    Calls Try.prog 4 [.int .i64 most, .int .i64 every, .slice A len cap].toArray w fun e w' => e = .returned (.bool true) ∧ HP w w' [] [] := by
  refine calls_of_W Try.func4 rfl Try.ntmps4 rfl rfl (HP.refl w []) ?_
  refine W.seq ?_
  refine W.region ?_
  refine WL.as rfl rfl ?_
  refine WL.nil ?_
  refine WQ.then ?_
  refine W.seq ?_
  refine W.region ?_
  refine WL.pure _ rfl (by kernel_rfl) rfl (fun w hp => awake_calls w) ?_
  refine WL.as rfl rfl ?_
  refine WL.nil ?_
  refine WQ.then ?_
  refine W.seq ?_
  refine W.region ?_
  refine WL.mv rfl rfl ?_
  refine WL.mv rfl rfl ?_
  refine WL.pure _ rfl (by kernel_rfl) rfl (fun w hp => newbad_calls most every w hm) ?_
  refine WL.mv rfl rfl ?_
  refine WL.val rfl (V_extract rfl rfl) ?_
  refine WL.val rfl (V_extract rfl rfl) ?_
  refine WL.as rfl rfl ?_
  refine WL.as rfl rfl ?_
  refine WL.nil ?_
  refine WQ.then ?_
  refine W.seq ?_
  refine W.seq ?_
  refine W.region ?_
  refine WL.mv rfl rfl ?_
  refine WL.val rfl (V_eqlP (by kernel_rfl) rfl rfl) ?_
  refine WL.mv rfl rfl ?_
  refine WL.no rfl rfl rfl ?_
  refine WL.no rfl rfl rfl ?_
  refine WL.no rfl rfl rfl ?_
  refine WL.val rfl (V_pick_t rfl rfl rfl) ?_
  refine WL.nil ?_
  refine WQ.then ?_
  refine W.cond_true rfl rfl ?_
  refine W.seq ?_
  refine W.region ?_
  refine WL.mv rfl rfl ?_
  refine WL.mv rfl rfl ?_
  refine WL.yes rfl rfl ?_
  refine WL.mv rfl rfl ?_
  refine WL.yes rfl rfl ?_
  refine WL.val rfl (V_eql rfl rfl) ?_
  refine WL.yes rfl rfl ?_
  refine WL.mv rfl rfl ?_
  refine WL.yes rfl rfl ?_
  refine WL.val rfl (V_neqP (by kernel_rfl) rfl rfl) ?_
  refine WL.yes rfl rfl ?_
  refine WL.val rfl (V_eqlB (by kernel_rfl) rfl rfl) ?_
  refine WL.val rfl (V_pick_t rfl rfl rfl) ?_
  refine WL.as rfl rfl ?_
  refine WL.nil ?_
  refine WQ.then ?_
  refine W.ret ?_
  refine WQ.then_ret ?_
  refine WQ.ret1 Try.results4 (.tmp rfl) ?_
  intro w' hp; exact ⟨rfl, hp.forget⟩

end Go.Proofs.Ytlkmdhajfkkppaa