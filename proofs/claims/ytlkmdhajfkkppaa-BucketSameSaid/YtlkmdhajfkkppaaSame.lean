/- BucketSame: its walk. -/
import Derived.Test.YtlkmdhajfkkppaaWaits
import Derived.Test.YtlkmdhajfkkppaaXBits
namespace Go.Proofs.Ytlkmdhajfkkppaa
open Go.X

theorem same_calls (most every : Int) (A : Option Addr) (len cap : Nat) (zs : Nat → Int) (w : World) (hl : Ints w A len .u8 zs) (hz : ∀ i, i < len → 0 ≤ zs i ∧ zs i ≤ 255) (hn : (len : Int) ≤ 9223372036854775807) (hm : mayB most every) :
    Calls Try.prog 6 [.int .i64 most, .int .i64 every, .slice A len cap].toArray w fun e w' => e = .returned (.bool true) ∧ HP w w' [] [] := by
  refine calls_of_W Try.func6 rfl Try.ntmps6 rfl rfl (HP.refl w []) ?_
  refine W.seq ?_
  refine W.region ?_
  refine WL.as rfl rfl ?_
  refine WL.nil ?_
  refine WQ.then ?_
  refine W.seq ?_
  refine W.region ?_
  refine WL.pure _ rfl (by kernel_rfl) rfl (fun w hp => awake_calls w) ?_
  refine WL.as rfl rfl ?_
  refine WL.nil ?_
  refine WQ.then ?_
  refine W.seq ?_
  refine W.region ?_
  refine WL.mv rfl rfl ?_
  refine WL.mv rfl rfl ?_
  refine WL.call [] (fun r => .tuple #[.pointer (some ⟨r, 0, none⟩), .int .i64 0]) (fun r => [(r, .cells (bkt most every 0 most) 43)]) (fun _ => True) rfl (by kernel_rfl) rfl (.nil _) (fun w hp => new_calls most every w hm) ?_; intro b18 _
  refine WL.mv rfl rfl ?_
  refine WL.val rfl (V_extract rfl rfl) ?_
  refine WL.val rfl (V_extract rfl rfl) ?_
  refine WL.as rfl rfl ?_
  refine WL.as rfl rfl ?_
  refine WL.nil ?_
  refine WQ.then ?_
  refine W.seq ?_
  refine W.region ?_
  refine WL.mv rfl rfl ?_
  refine WL.mv rfl rfl ?_
  refine WL.call [] (fun r => .tuple #[.pointer (some ⟨r, 0, none⟩), .int .i64 0]) (fun r => [(r, .cells (bkt most every 0 most) 43)]) (fun _ => True) rfl (by kernel_rfl) rfl (.nil _) (fun w hp => new_calls most every w hm) ?_; intro b24 _
  refine WL.mv rfl rfl ?_
  refine WL.val rfl (V_extract rfl rfl) ?_
  refine WL.val rfl (V_extract rfl rfl) ?_
  refine WL.as rfl rfl ?_
  refine WL.as rfl rfl ?_
  refine WL.nil ?_
  refine WQ.then ?_
  refine W.seq ?_
  refine W.seq ?_
  refine W.region ?_
  refine WL.mv rfl rfl ?_
  refine WL.val rfl (V_eqlP (by kernel_rfl) rfl rfl) ?_
  refine WL.mv rfl rfl ?_
  refine WL.yes rfl rfl ?_
  refine WL.mv rfl rfl ?_
  refine WL.yes rfl rfl ?_
  refine WL.val rfl (V_eqlP (by kernel_rfl) rfl rfl) ?_
  refine WL.val rfl (V_pick_f rfl rfl rfl) ?_
  refine WL.mv rfl rfl ?_
  refine WL.yes rfl rfl ?_
  refine WL.mv rfl rfl ?_
  refine WL.yes rfl rfl ?_
  refine WL.val rfl (V_lenS (by kernel_rfl) rfl) ?_
  refine WL.yes rfl rfl ?_
  refine WL.val rfl (V_gtr rfl rfl) ?_
  refine WL.val rfl (V_pick_f rfl rfl rfl) ?_
  refine WL.nil ?_
  refine WQ.then ?_
  refine W.cond_dec rfl (fun g1 => ?_) (fun g1 => ?_)
  ·
    refine W.seq ?_
    refine W.region ?_
    refine WL.mv rfl rfl ?_
    refine WL.mv rfl rfl ?_
    refine WL.yes rfl rfl ?_
    refine WL.mv rfl rfl ?_
    refine WL.yes rfl rfl ?_
    refine WL.val rfl (V_eql rfl rfl) ?_
    refine WL.yes rfl rfl ?_
    refine WL.mv rfl rfl ?_
    refine WL.yes rfl rfl ?_
    refine WL.val rfl (V_neqP (by kernel_rfl) rfl rfl) ?_
    refine WL.yes rfl rfl ?_
    refine WL.val rfl (V_eqlB (by kernel_rfl) rfl rfl) ?_
    refine WL.val rfl (V_pick_t rfl rfl rfl) ?_
    refine WL.as rfl rfl ?_
    refine WL.nil ?_
    refine WQ.then ?_
    refine W.ret ?_
    refine WQ.then_ret ?_
    refine WQ.ret1 Try.results6 (.tmp rfl) ?_
    intro w' hp; exact ⟨rfl, hp.forget⟩
  ·
    refine W.skip ?_
    refine WQ.then ?_
    refine W.seq ?_
    refine W.region ?_
    refine WL.as rfl rfl ?_
    refine WL.nil ?_
    refine WQ.then ?_
    refine W.seq ?_
    refine W.seq ?_
    refine W.region ?_
    refine WL.as rfl rfl ?_
    refine WL.nil ?_
    refine WQ.then ?_
    refine W.block ?_
    -- LOOP
    refine W.pick [2, 7, 8, 10, 12, 13] rfl ?_
    refine W.loop (σ := Nat × Int × Int × Int) (fun s => s.1 ≤ len ∧ OkB most every s.2.2.1 s.2.2.2 ∧ 0 ≤ s.2.1 ∧ s.2.1 ≤ 29 * s.1) (fun s => [(2, .slice A len cap), (7, .bool true), (8, .pointer (some ⟨b18, 0, none⟩)), (10, .pointer (some ⟨b24, 0, none⟩)), (12, .int .i64 s.2.1), (13, .int .i64 s.1)]) (fun s => [(b24, .cells (bkt most every s.2.2.1 s.2.2.2) 43), (b18, .cells (bkt most every s.2.2.1 s.2.2.2) 43)]) (fun s => len - s.1) (0, 0, 0, most) rfl rfl ⟨Nat.zero_le _, hm.ok, by simp, by simp⟩ ?_
    rintro ⟨i, now, t, n⟩ ⟨hi, hk, hnow, hnow2⟩; dsimp only at hi hk hnow hnow2 ⊢
    refine W.seq ?_
    refine W.seq ?_
    refine W.region ?_
    refine WL.mv rfl rfl ?_
    refine WL.mv rfl rfl ?_
    refine WL.val rfl (V_lenS (by kernel_rfl) rfl) ?_
    refine WL.val rfl (V_lss rfl rfl) ?_
    refine WL.nil ?_
    refine WQ.then ?_
    refine W.cond_dec rfl (fun g2 => ?_) (fun g2 => ?_)
    ·
      refine W.skip ?_
      refine WQ.then ?_
      refine W.seq ?_
      refine W.block ?_
      refine W.seq ?_
      refine W.region ?_
      obtain ⟨bb, oo, pre, post, rfl, hA⟩ := hl (by omega); have hzi := hz i (by omega)
      refine WL.mv rfl rfl ?_
      refine WL.mv rfl rfl ?_
      refine WL.mv rfl rfl ?_
      refine WL.val rfl (V_indexAddrS 1 (by kernel_rfl) rfl rfl (by omega) (by omega)) ?_
      refine WL.val rfl (V_loadInt (k := .u8) (zs := zs) i (by kernel_rfl) rfl (hA.at (by simp)) (by simp) (by omega)) ?_
      refine WL.val rfl (V_convN (k' := .i64) rfl (by kernel_rfl) (by kernel_rfl) (IntWalk.i64_in _ (by omega))) ?_
      first | refine WL.val rfl (V_remN rfl rfl (by omega) (by omega)) ?_ | refine WL.val rfl (V_rem rfl rfl (by omega)) ?_
      first | refine WL.val rfl (V_addN rfl rfl (by omega)) ?_ | refine WL.val rfl (V_add rfl rfl) ?_
      refine WL.as rfl rfl ?_
      refine WL.nil ?_
      refine WQ.then ?_
      refine W.seq ?_
      refine W.region ?_
      refine WL.mv rfl rfl ?_
      refine WL.mv rfl rfl ?_
      first | refine WL.val rfl (V_addN rfl rfl (by omega)) ?_ | refine WL.val rfl (V_add rfl rfl) ?_
      refine WL.pure _ rfl (by kernel_rfl) rfl (fun w hp => has_calls b18 most every t n _ w (At.hp (by repeat (first | exact At.head | exact AtW.at ‹_› (by simp) | apply At.tail)) hp) hk) ?_
      refine WL.nil ?_
      refine WQ.then ?_
      refine W.seq ?_
      refine W.region ?_
      refine WL.mv rfl rfl ?_
      refine WL.mv rfl rfl ?_
      first | refine WL.val rfl (V_subN rfl rfl (by omega)) ?_ | refine WL.val rfl (V_sub rfl rfl) ?_
      refine WL.pure _ rfl (by kernel_rfl) rfl (fun w hp => has_calls b18 most every t n _ w (At.hp (by repeat (first | exact At.head | exact AtW.at ‹_› (by simp) | apply At.tail)) hp) hk) ?_
      refine WL.nil ?_
      refine WQ.then ?_
      refine W.seq ?_
      refine W.seq ?_
      refine W.region ?_
      refine WL.mv rfl rfl ?_
      refine WL.mv rfl rfl ?_
      refine WL.val rfl (V_indexAddrS 1 (by kernel_rfl) rfl rfl (by omega) (by omega)) ?_
      refine WL.val rfl (V_loadInt (k := .u8) (zs := zs) i (by kernel_rfl) rfl (hA.at (by simp)) (by simp) (by omega)) ?_
      refine WL.val rfl (V_and rfl rfl) ?_
      refine WL.val rfl (V_eql rfl rfl) ?_
      refine WL.nil ?_
      refine WQ.then ?_
      refine W.cond_dec rfl (fun g3 => ?_) (fun g3 => ?_)
      ·
        refine W.exit ?_
        refine WQ.then_exit ?_
        refine WQ.block_hit ?_
        refine WQ.then ?_
        refine W.region ?_
        refine WL.mv rfl rfl ?_
        first | refine WL.val rfl (V_addN rfl rfl (by omega)) ?_ | refine WL.val rfl (V_add rfl rfl) ?_
        refine WL.as rfl rfl ?_
        refine WL.nil ?_
        exact WQ.again (i + 1, now + zs i % 30, t, n) [2, 7, 8, 10, 12, 13] (by exact ⟨by omega, hk, by dsimp only; omega, by push_cast; omega⟩) (by show len - (i + 1) < len - i; omega) rfl (by repeat (first | exact List.Sublist.refl _ | exact List.nil_sublist _ | refine List.Sublist.cons_cons _ ?_ | refine List.Sublist.cons _ ?_))
      ·
        refine W.skip ?_
        refine WQ.then ?_
        refine W.seq ?_
        refine W.region ?_
        refine WL.mv rfl rfl ?_
        refine WL.mv rfl rfl ?_
        refine WL.mod _ rfl (by kernel_rfl) rfl (by repeat (first | exact Upd.here _ _ | apply Upd.there)) (fun w hp => take_calls b18 most every t n _ 43 w (hp.held (b18, .cells (bkt most every t n) 43) (by simp)) hk) ?_
        refine WL.mv rfl rfl ?_
        refine WL.mv rfl rfl ?_
        refine WL.mod _ rfl (by kernel_rfl) rfl (by repeat (first | exact Upd.here _ _ | apply Upd.there)) (fun w hp => take_calls b24 most every t n _ 43 w (hp.held (b24, .cells (bkt most every t n) 43) (by simp)) hk) ?_
        refine WL.val rfl (V_neq rfl rfl) ?_
        refine WL.mv rfl rfl ?_
        refine WL.yes rfl (by simp) ?_
        refine WL.mv rfl rfl ?_
        refine WL.yes rfl (by simp) ?_
        refine WL.mv rfl rfl ?_
        refine WL.yes rfl (by simp) ?_
        first | refine WL.val rfl (V_addN rfl rfl (by omega)) ?_ | refine WL.val rfl (V_add rfl rfl) ?_
        refine WL.yes rfl (by simp) ?_
        refine WL.pure _ rfl (by kernel_rfl) rfl (fun w hp => has_calls b18 most every (takeT t (now + zs i % 30)) (takeN most every t n (now + zs i % 30)) _ w (At.hp (by repeat (first | exact At.head | exact AtW.at ‹_› (by simp) | apply At.tail)) hp) (hk.take _)) ?_
        refine WL.yes rfl (by simp) ?_
        refine WL.mv rfl rfl ?_
        refine WL.yes rfl (by simp) ?_
        refine WL.mv rfl rfl ?_
        refine WL.yes rfl (by simp) ?_
        first | refine WL.val rfl (V_addN rfl rfl (by omega)) ?_ | refine WL.val rfl (V_add rfl rfl) ?_
        refine WL.yes rfl (by simp) ?_
        refine WL.pure _ rfl (by kernel_rfl) rfl (fun w hp => has_calls b24 most every (takeT t (now + zs i % 30)) (takeN most every t n (now + zs i % 30)) _ w (At.hp (by repeat (first | exact At.head | exact AtW.at ‹_› (by simp) | apply At.tail)) hp) (hk.take _)) ?_
        refine WL.yes rfl (by simp) ?_
        refine WL.val rfl (V_neq rfl rfl) ?_
        refine WL.val rfl (V_pick_f rfl (by simp) rfl) ?_
        refine WL.nil ?_
        refine WQ.then ?_
        refine W.cond_false rfl (by simp) ?_
        refine W.skip ?_
        refine WQ.block_normal ?_
        refine WQ.then ?_
        refine W.region ?_
        refine WL.mv rfl rfl ?_
        first | refine WL.val rfl (V_addN rfl rfl (by omega)) ?_ | refine WL.val rfl (V_add rfl rfl) ?_
        refine WL.as rfl rfl ?_
        refine WL.nil ?_
        exact WQ.again (i + 1, now + zs i % 30, takeT t (now + zs i % 30), takeN most every t n (now + zs i % 30)) [2, 7, 8, 10, 12, 13] (by exact ⟨by omega, hk.take _, by dsimp only; omega, by push_cast; omega⟩) (by show len - (i + 1) < len - i; omega) rfl (by repeat (first | exact List.Sublist.refl _ | exact List.nil_sublist _ | refine List.Sublist.cons_cons _ ?_ | refine List.Sublist.cons _ ?_))
    ·
      refine W.exit ?_
      refine WQ.then_exit ?_
      refine WQ.then_exit ?_
      refine WQ.block_hit ?_
      refine WQ.then ?_
      refine W.seq ?_
      refine W.region ?_
      refine WL.mv rfl rfl ?_
      refine WL.as rfl rfl ?_
      refine WL.nil ?_
      refine WQ.then ?_
      refine W.ret ?_
      refine WQ.ret1 Try.results6 (.tmp rfl) ?_
      intro w' hp; exact ⟨rfl, hp.forget⟩

theorem same_callsBad (most every : Int) (A : Option Addr) (len cap : Nat) (w : World) (hm : ¬ mayB most every) :
    Calls Try.prog 6 [.int .i64 most, .int .i64 every, .slice A len cap].toArray w fun e w' => e = .returned (.bool true) ∧ HP w w' [] [] := by
  refine calls_of_W Try.func6 rfl Try.ntmps6 rfl rfl (HP.refl w []) ?_
  refine W.seq ?_
  refine W.region ?_
  refine WL.as rfl rfl ?_
  refine WL.nil ?_
  refine WQ.then ?_
  refine W.seq ?_
  refine W.region ?_
  refine WL.pure _ rfl (by kernel_rfl) rfl (fun w hp => awake_calls w) ?_
  refine WL.as rfl rfl ?_
  refine WL.nil ?_
  refine WQ.then ?_
  refine W.seq ?_
  refine W.region ?_
  refine WL.mv rfl rfl ?_
  refine WL.mv rfl rfl ?_
  refine WL.pure _ rfl (by kernel_rfl) rfl (fun w hp => newbad_calls most every w hm) ?_
  refine WL.mv rfl rfl ?_
  refine WL.val rfl (V_extract rfl rfl) ?_
  refine WL.val rfl (V_extract rfl rfl) ?_
  refine WL.as rfl rfl ?_
  refine WL.as rfl rfl ?_
  refine WL.nil ?_
  refine WQ.then ?_
  refine W.seq ?_
  refine W.region ?_
  refine WL.mv rfl rfl ?_
  refine WL.mv rfl rfl ?_
  refine WL.pure _ rfl (by kernel_rfl) rfl (fun w hp => newbad_calls most every w hm) ?_
  refine WL.mv rfl rfl ?_
  refine WL.val rfl (V_extract rfl rfl) ?_
  refine WL.val rfl (V_extract rfl rfl) ?_
  refine WL.as rfl rfl ?_
  refine WL.as rfl rfl ?_
  refine WL.nil ?_
  refine WQ.then ?_
  refine W.seq ?_
  refine W.seq ?_
  refine W.region ?_
  refine WL.mv rfl rfl ?_
  refine WL.val rfl (V_eqlP (by kernel_rfl) rfl rfl) ?_
  refine WL.mv rfl rfl ?_
  refine WL.no rfl rfl rfl ?_
  refine WL.no rfl rfl rfl ?_
  refine WL.val rfl (V_pick_t rfl rfl rfl) ?_
  refine WL.mv rfl rfl ?_
  refine WL.no rfl rfl rfl ?_
  refine WL.no rfl rfl rfl ?_
  refine WL.no rfl rfl rfl ?_
  refine WL.val rfl (V_pick_t rfl rfl rfl) ?_
  refine WL.nil ?_
  refine WQ.then ?_
  refine W.cond_true rfl rfl ?_
  refine W.seq ?_
  refine W.region ?_
  refine WL.mv rfl rfl ?_
  refine WL.mv rfl rfl ?_
  refine WL.yes rfl rfl ?_
  refine WL.mv rfl rfl ?_
  refine WL.yes rfl rfl ?_
  refine WL.val rfl (V_eql rfl rfl) ?_
  refine WL.yes rfl rfl ?_
  refine WL.mv rfl rfl ?_
  refine WL.yes rfl rfl ?_
  refine WL.val rfl (V_neqP (by kernel_rfl) rfl rfl) ?_
  refine WL.yes rfl rfl ?_
  refine WL.val rfl (V_eqlB (by kernel_rfl) rfl rfl) ?_
  refine WL.val rfl (V_pick_t rfl rfl rfl) ?_
  refine WL.as rfl rfl ?_
  refine WL.nil ?_
  refine WQ.then ?_
  refine W.ret ?_
  refine WQ.then_ret ?_
  refine WQ.ret1 Try.results6 (.tmp rfl) ?_
  intro w' hp; exact ⟨rfl, hp.forget⟩

end Go.Proofs.Ytlkmdhajfkkppaa