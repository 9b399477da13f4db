/- The laws' first look, and BucketPlays. -/
import Derived.Test.YtlkmdhajfkkppaaRef
import Derived.Test.YtlkmdhajfkkppaaXRow
namespace Go.Proofs.Ytlkmdhajfkkppaa
open Go.X
theorem may210 : mayB 2 10 := ⟨by decide, by decide, by decide, by decide⟩

theorem awake_calls (w : World) : Calls Try.prog 8 ([] : List Value).toArray w fun e w' => e = .returned (.bool true) ∧ HP w w' [] [] := by
  refine calls_of_W Try.func8 rfl Try.ntmps8 rfl rfl (HP.refl w []) ?_
  refine W.seq ?_
  refine W.region ?_
  refine WL.as rfl rfl ?_
  refine WL.nil ?_
  refine WQ.then ?_
  refine W.seq ?_
  refine W.region ?_
  refine WL.call [] (fun r => .tuple #[.pointer (some ⟨r, 0, none⟩), .int .i64 0]) (fun r => [(r, .cells (bkt 2 10 0 2) 43)]) (fun _ => True) rfl (by kernel_rfl) rfl (.nil _) (fun w hp => new_calls 2 10 w may210) ?_; intro b7 _
  refine WL.mv rfl rfl ?_
  refine WL.val rfl (V_extract rfl rfl) ?_
  refine WL.val rfl (V_extract rfl rfl) ?_
  refine WL.as rfl rfl ?_
  refine WL.as rfl rfl ?_
  refine WL.nil ?_
  refine WQ.then ?_
  refine W.seq ?_
  refine W.seq ?_
  refine W.region ?_
  refine WL.mv rfl rfl ?_
  refine WL.val rfl (V_eqlP (by kernel_rfl) rfl rfl) ?_
  refine WL.mv rfl rfl ?_
  refine WL.yes rfl rfl ?_
  refine WL.mv rfl rfl ?_
  refine WL.yes rfl rfl ?_
  refine WL.val rfl (V_neq rfl rfl) ?_
  refine WL.val rfl (V_pick_f rfl rfl rfl) ?_
  refine WL.nil ?_
  refine WQ.then ?_
  refine W.cond_false rfl (by decide) ?_
  refine W.skip ?_
  refine WQ.then ?_
  refine W.seq ?_
  refine W.region ?_
  refine WL.mv rfl rfl ?_
  refine WL.mod _ rfl (by kernel_rfl) rfl (by repeat (first | exact Upd.here _ _ | apply Upd.there)) (fun w hp => take_calls b7 2 10 0 2 _ 43 w (hp.held (b7, .cells (bkt 2 10 0 2) 43) (by simp)) may210.ok) ?_
  refine WL.as rfl rfl ?_
  refine WL.nil ?_
  refine WQ.then ?_
  refine W.seq ?_
  refine W.region ?_
  refine WL.mv rfl rfl ?_
  refine WL.mod _ rfl (by kernel_rfl) rfl (by repeat (first | exact Upd.here _ _ | apply Upd.there)) (fun w hp => take_calls b7 2 10 (takeT 0 0) (takeN 2 10 0 2 0) _ 43 w (hp.held (b7, .cells (bkt 2 10 (takeT 0 0) (takeN 2 10 0 2 0)) 43) (by simp)) (may210.ok.take _)) ?_
  refine WL.as rfl rfl ?_
  refine WL.nil ?_
  refine WQ.then ?_
  refine W.seq ?_
  refine W.region ?_
  refine WL.mv rfl rfl ?_
  refine WL.mod _ rfl (by kernel_rfl) rfl (by repeat (first | exact Upd.here _ _ | apply Upd.there)) (fun w hp => take_calls b7 2 10 (takeT (takeT 0 0) 0) (takeN 2 10 (takeT 0 0) (takeN 2 10 0 2 0) 0) _ 43 w (hp.held (b7, .cells (bkt 2 10 (takeT (takeT 0 0) 0) (takeN 2 10 (takeT 0 0) (takeN 2 10 0 2 0) 0)) 43) (by simp)) ((may210.ok.take _).take _)) ?_
  refine WL.as rfl rfl ?_
  refine WL.nil ?_
  refine WQ.then ?_
  refine W.seq ?_
  refine W.region ?_
  refine WL.mv rfl rfl ?_
  refine WL.val rfl (V_eql rfl rfl) ?_
  refine WL.mv rfl rfl ?_
  refine WL.yes rfl (by decide) ?_
  refine WL.mv rfl rfl ?_
  refine WL.yes rfl (by decide) ?_
  refine WL.val rfl (V_eql rfl rfl) ?_
  refine WL.val rfl (V_pick_t rfl (by decide) rfl) ?_
  refine WL.mv rfl rfl ?_
  refine WL.yes rfl (by decide) ?_
  refine WL.mv rfl rfl ?_
  refine WL.yes rfl (by decide) ?_
  refine WL.val rfl (V_eql rfl rfl) ?_
  refine WL.val rfl (V_pick_t rfl (by decide) rfl) ?_
  refine WL.mv rfl rfl ?_
  refine WL.yes rfl (by decide) ?_
  refine WL.mv rfl rfl ?_
  refine WL.yes rfl (by decide) ?_
  refine WL.pure _ rfl (by kernel_rfl) rfl (fun w hp => has_calls b7 2 10 (takeT (takeT (takeT 0 0) 0) 9) (takeN 2 10 (takeT (takeT 0 0) 0) (takeN 2 10 (takeT 0 0) (takeN 2 10 0 2 0) 0) 9) _ w (At.hp (by repeat (first | exact At.head | exact AtW.at ‹_› (by simp) | apply At.tail)) hp) (((may210.ok.take _).take _).take _)) ?_
  refine WL.yes rfl (by decide) ?_
  refine WL.val rfl (V_eql rfl rfl) ?_
  refine WL.val rfl (V_pick_t rfl (by decide) rfl) ?_
  refine WL.mv rfl rfl ?_
  refine WL.yes rfl (by decide) ?_
  refine WL.mv rfl rfl ?_
  refine WL.yes rfl (by decide) ?_
  refine WL.mod _ rfl (by kernel_rfl) rfl (by repeat (first | exact Upd.here _ _ | apply Upd.there)) (fun w hp => take_calls b7 2 10 (takeT (takeT (takeT 0 0) 0) 9) (takeN 2 10 (takeT (takeT 0 0) 0) (takeN 2 10 (takeT 0 0) (takeN 2 10 0 2 0) 0) 9) _ 43 w (hp.held (b7, .cells (bkt 2 10 (takeT (takeT (takeT 0 0) 0) 9) (takeN 2 10 (takeT (takeT 0 0) 0) (takeN 2 10 (takeT 0 0) (takeN 2 10 0 2 0) 0) 9)) 43) (by simp)) (((may210.ok.take _).take _).take _)) ?_
  refine WL.yes rfl (by decide) ?_
  refine WL.val rfl (V_eql rfl rfl) ?_
  refine WL.val rfl (V_pick_t rfl (by decide) rfl) ?_
  refine WL.as rfl rfl ?_
  refine WL.nil ?_
  refine WQ.then ?_
  refine W.ret ?_
  refine WQ.ret1 Try.results8 (.tmp rfl) ?_
  intro w' hp; exact ⟨rfl, hp.forget⟩

theorem plays_calls (most every : Int) (A : Option Addr) (len cap : Nat) (zs : Nat → Int) (w : World) (hl : Ints w A len .i64 zs) (hn : (len : Int) ≤ 9223372036854775807) (hm : mayB most every) :
    Calls Try.prog 3 [.int .i64 most, .int .i64 every, .slice A len cap].toArray w fun e w' => e = .returned (.bool true) ∧ HP w w' [] [] := by
  refine calls_of_W Try.func3 rfl Try.ntmps3 rfl rfl (HP.refl w []) ?_
  refine W.seq ?_
  refine W.region ?_
  refine WL.as rfl rfl ?_
  refine WL.nil ?_
  refine WQ.then ?_
  refine W.seq ?_
  refine W.region ?_
  refine WL.pure _ rfl (by kernel_rfl) rfl (fun w hp => awake_calls w) ?_
  refine WL.as rfl rfl ?_
  refine WL.nil ?_
  refine WQ.then ?_
  refine W.seq ?_
  refine W.region ?_
  refine WL.mv rfl rfl ?_
  refine WL.mv rfl rfl ?_
  refine WL.call [] (fun r => .tuple #[.pointer (some ⟨r, 0, none⟩), .int .i64 0]) (fun r => [(r, .cells (bkt most every 0 most) 43)]) (fun _ => True) rfl (by kernel_rfl) rfl (.nil _) (fun w hp => new_calls most every w hm) ?_; intro b17 _
  refine WL.mv rfl rfl ?_
  refine WL.val rfl (V_extract rfl rfl) ?_
  refine WL.val rfl (V_extract rfl rfl) ?_
  refine WL.as rfl rfl ?_
  refine WL.as rfl rfl ?_
  refine WL.nil ?_
  refine WQ.then ?_
  refine W.seq ?_
  refine W.region ?_
  refine WL.mv rfl rfl ?_
  refine WL.mv rfl rfl ?_
  refine WL.call [] (fun r => .tuple #[.pointer (some ⟨r, 0, none⟩), .int .i64 0]) (fun r => [(r, .cells (bkt most every 0 most) 46)]) (fun _ => True) rfl (by kernel_rfl) rfl (.nil _) (fun w hp => rnew_calls most every w hm) ?_; intro b23 _
  refine WL.mv rfl rfl ?_
  refine WL.val rfl (V_extract rfl rfl) ?_
  refine WL.val rfl (V_extract rfl rfl) ?_
  refine WL.as rfl rfl ?_
  refine WL.as rfl rfl ?_
  refine WL.nil ?_
  refine WQ.then ?_
  refine W.seq ?_
  refine W.seq ?_
  refine W.region ?_
  refine WL.mv rfl rfl ?_
  refine WL.mv rfl rfl ?_
  refine WL.val rfl (V_neq rfl rfl) ?_
  refine WL.mv rfl rfl ?_
  refine WL.yes rfl (by decide) ?_
  refine WL.mv rfl rfl ?_
  refine WL.yes rfl (by decide) ?_
  refine WL.val rfl (V_eqlP (by kernel_rfl) rfl rfl) ?_
  refine WL.yes rfl (by decide) ?_
  refine WL.mv rfl rfl ?_
  refine WL.yes rfl (by decide) ?_
  refine WL.val rfl (V_eqlP (by kernel_rfl) rfl rfl) ?_
  refine WL.yes rfl (by decide) ?_
  refine WL.val rfl (V_neqB (by kernel_rfl) rfl rfl) ?_
  refine WL.val rfl (V_pick_f rfl (by decide) rfl) ?_
  refine WL.nil ?_
  refine WQ.then ?_
  refine W.cond_false rfl rfl ?_
  refine W.skip ?_
  refine WQ.then ?_
  refine W.seq ?_
  refine W.seq ?_
  refine W.region ?_
  refine WL.as rfl rfl ?_
  refine WL.nil ?_
  refine WQ.then ?_
  refine W.block ?_
  -- LOOP
  refine W.pick [2, 7, 8, 10, 12] rfl ?_
  refine W.loop (σ := Nat × Int × Int) (fun s => s.1 ≤ len ∧ OkB most every s.2.1 s.2.2) (fun s => [(2, .slice A len cap), (7, .bool true), (8, .pointer (some ⟨b17, 0, none⟩)), (10, .pointer (some ⟨b23, 0, none⟩)), (12, .int .i64 s.1)]) (fun s => [(b23, .cells (bkt most every s.2.1 s.2.2) 46), (b17, .cells (bkt most every s.2.1 s.2.2) 43)]) (fun s => len - s.1) (0, 0, most) rfl rfl ⟨Nat.zero_le _, hm.ok⟩ ?_
  rintro ⟨i, t, n⟩ ⟨hi, hk⟩; dsimp only at hi hk ⊢
  refine W.seq ?_
  refine W.seq ?_
  refine W.region ?_
  refine WL.mv rfl rfl ?_
  refine WL.mv rfl rfl ?_
  refine WL.val rfl (V_lenS (by kernel_rfl) rfl) ?_
  refine WL.val rfl (V_lss rfl rfl) ?_
  refine WL.mv rfl rfl ?_
  refine WL.splitD rfl (fun g1 => ?_) (fun g1 => ?_)
  ·
    refine WL.yes rfl (decide_eq_true g1) ?_
    refine WL.mv rfl rfl ?_
    refine WL.yes rfl (decide_eq_true g1) ?_
    refine WL.val rfl (V_lss rfl rfl) ?_
    refine WL.val rfl (V_pick_td rfl g1 rfl) ?_
    refine WL.mv rfl rfl ?_
    refine WL.splitD rfl (fun g2 => ?_) (fun g2 => ?_)
    ·
      refine WL.yes rfl (decide_eq_true g2) ?_
      refine WL.mv rfl rfl ?_
      refine WL.yes rfl (decide_eq_true g2) ?_
      refine WL.val rfl (V_neqP (by kernel_rfl) rfl rfl) ?_
      refine WL.val rfl (V_pick_td rfl g2 rfl) ?_
      refine WL.nil ?_
      refine WQ.then ?_
      refine W.cond_true rfl rfl ?_
      refine W.skip ?_
      refine WQ.then ?_
      refine W.seq ?_
      refine W.block ?_
      refine W.seq ?_
      refine W.seq ?_
      refine W.region ?_
      refine WL.mv rfl rfl ?_
      refine WL.mv rfl rfl ?_
      obtain ⟨bb, oo, pre, post, rfl, hA⟩ := hl (by omega)
      refine WL.val rfl (V_indexAddrS 1 (by kernel_rfl) rfl rfl (by omega) (by omega)) ?_
      refine WL.val rfl (V_loadInt (k := .i64) (zs := zs) i (by kernel_rfl) rfl (hA.at (by simp)) (by simp) (by omega)) ?_
      refine WL.val rfl (V_lss rfl rfl) ?_
      refine WL.mv rfl rfl ?_
      refine WL.splitD rfl (fun g3 => ?_) (fun g3 => ?_)
      ·
        refine WL.yes rfl (decide_eq_true g3) ?_
        refine WL.mv rfl rfl ?_
        refine WL.yes rfl (decide_eq_true g3) ?_
        refine WL.mv rfl rfl ?_
        refine WL.yes rfl (decide_eq_true g3) ?_
        refine WL.val rfl (V_indexAddrS 1 (by kernel_rfl) rfl rfl (by omega) (by omega)) ?_
        refine WL.yes rfl (decide_eq_true g3) ?_
        refine WL.val rfl (V_loadInt (k := .i64) (zs := zs) i (by kernel_rfl) rfl (hA.at (by simp)) (by simp) (by omega)) ?_
        refine WL.yes rfl (decide_eq_true g3) ?_
        refine WL.val rfl (V_gtr rfl rfl) ?_
        refine WL.val rfl (V_pick_td rfl g3 rfl) ?_
        refine WL.nil ?_
        refine WQ.then ?_
        refine W.cond_dec rfl (fun g4 => ?_) (fun g4 => ?_)
        ·
          refine W.seq ?_
          refine W.seq ?_
          refine W.drawn (.q 0 (.q 1 (.q 2 (.q 3 (.q 4 (.q 5 (.q 7 (.q 8 (.q 9 (.q 10 (.q 11 (.q 12 (.l 6 (.l 13 (.q 14 (.done)))))))))))))))) [] (by kernel_rfl) (fun _ a d _ _ h => by cases d <;> exact h) (by kernel_rfl) (by repeat (first | exact List.Sublist.refl _ | exact List.nil_sublist _ | refine List.Sublist.cons_cons _ ?_ | refine List.Sublist.cons _ ?_)) ?_
          refine WD.q rfl rfl (V_move rfl) ?_
          refine WD.q rfl rfl (V_move rfl) ?_
          refine WD.q rfl rfl (V_move rfl) ?_
          refine WD.q rfl rfl (V_indexAddrS 1 (by kernel_rfl) rfl rfl (by omega) (by omega)) ?_
          refine WD.q rfl rfl (V_loadInt (k := .i64) (zs := zs) i (by kernel_rfl) rfl (hA.at (by simp)) (by simp) (by omega)) ?_
          refine WD.q rfl rfl (V_negN rfl (by omega)) ?_
          refine WD.q rfl rfl (V_move rfl) ?_
          refine WD.q rfl rfl (V_move rfl) ?_
          refine WD.q rfl rfl (V_move rfl) ?_
          refine WD.q rfl rfl (V_indexAddrS 1 (by kernel_rfl) rfl rfl (by omega) (by omega)) ?_
          refine WD.q rfl rfl (V_loadInt (k := .i64) (zs := zs) i (by kernel_rfl) rfl (hA.at (by simp)) (by simp) (by omega)) ?_
          refine WD.q rfl rfl (V_negN rfl (by omega)) ?_
          refine WD.l ?_
          refine WO.cal rfl rfl (by repeat (first | exact List.Sublist.refl _ | exact List.nil_sublist _ | refine List.Sublist.cons_cons _ ?_ | refine List.Sublist.cons _ ?_)) (C_pure _ (by kernel_rfl) rfl (fun w hp => has_calls b17 most every t n _ w (At.hp (by repeat (first | exact At.head | exact AtW.at ‹_› (by simp) | apply At.tail)) hp) hk)) ?_; rintro _ _ ⟨rfl, rfl⟩; refine ⟨by simp, ?_⟩
          refine WD.l ?_
          refine WO.cal rfl rfl (by repeat (first | exact List.Sublist.refl _ | exact List.nil_sublist _ | refine List.Sublist.cons_cons _ ?_ | refine List.Sublist.cons _ ?_)) (C_pure _ (by kernel_rfl) rfl (fun w hp => rhas_calls b23 most every t n _ w (At.hp (by repeat (first | exact At.head | exact AtW.at ‹_› (by simp) | apply At.tail)) hp) hk)) ?_; rintro _ _ ⟨rfl, rfl⟩; refine ⟨by simp, ?_⟩
          refine WD.q rfl rfl (V_neq rfl rfl) ?_
          refine WD.done ?_
          refine WQ.then ?_
          refine W.cond_false rfl (by simp) ?_
          refine W.skip ?_
          refine WQ.then ?_
          refine W.exit ?_
          refine WQ.then_exit ?_
          refine WQ.block_hit ?_
          refine WQ.then ?_
          refine W.region ?_
          refine WL.mv rfl rfl ?_
          first | refine WL.val rfl (V_addN rfl rfl (by omega)) ?_ | refine WL.val rfl (V_add rfl rfl) ?_
          refine WL.as rfl rfl ?_
          refine WL.nil ?_
          exact WQ.again (i + 1, t, n) [2, 7, 8, 10, 12] (by exact ⟨by omega, hk⟩) (by show len - (i + 1) < len - i; omega) rfl (by repeat (first | exact List.Sublist.refl _ | exact List.nil_sublist _ | refine List.Sublist.cons_cons _ ?_ | refine List.Sublist.cons _ ?_))
        ·
          refine W.skip ?_
          refine WQ.then ?_
          refine W.seq ?_
          refine W.drawn (.q 0 (.q 1 (.q 2 (.q 3 (.q 4 (.q 6 (.q 7 (.q 8 (.q 9 (.q 10 (.l 5 (.l 11 (.q 12 (.q 13 (.q 14 (.q 15 (.q 16 (.q 17 (.q 18 (.q 20 (.q 21 (.q 22 (.q 23 (.q 24 (.l 19 (.l 25 (.q 26 (.q 27 (.done))))))))))))))))))))))))))))) [] (by kernel_rfl) (fun _ a d _ _ h => by cases d <;> exact h) (by kernel_rfl) (by repeat (first | exact List.Sublist.refl _ | exact List.nil_sublist _ | refine List.Sublist.cons_cons _ ?_ | refine List.Sublist.cons _ ?_)) ?_
          refine WD.q rfl rfl (V_move rfl) ?_
          refine WD.q rfl rfl (V_move rfl) ?_
          refine WD.q rfl rfl (V_move rfl) ?_
          refine WD.q rfl rfl (V_indexAddrS 1 (by kernel_rfl) rfl rfl (by omega) (by omega)) ?_
          refine WD.q rfl rfl (V_loadInt (k := .i64) (zs := zs) i (by kernel_rfl) rfl (hA.at (by simp)) (by simp) (by omega)) ?_
          refine WD.q rfl rfl (V_move rfl) ?_
          refine WD.q rfl rfl (V_move rfl) ?_
          refine WD.q rfl rfl (V_move rfl) ?_
          refine WD.q rfl rfl (V_indexAddrS 1 (by kernel_rfl) rfl rfl (by omega) (by omega)) ?_
          refine WD.q rfl rfl (V_loadInt (k := .i64) (zs := zs) i (by kernel_rfl) rfl (hA.at (by simp)) (by simp) (by omega)) ?_
          refine WD.l ?_
          refine WO.cal rfl rfl (by repeat (first | exact List.Sublist.refl _ | exact List.nil_sublist _ | refine List.Sublist.cons_cons _ ?_ | refine List.Sublist.cons _ ?_)) (C_mod _ (by kernel_rfl) rfl (by repeat (first | exact Upd.here _ _ | apply Upd.there)) (fun w hp => take_calls b17 most every t n _ 43 w (hp.held (b17, .cells (bkt most every t n) 43) (by simp)) hk)) ?_; rintro _ _ ⟨rfl, rfl⟩; refine ⟨by simp, ?_⟩
          refine WD.l ?_
          refine WO.cal rfl rfl (by repeat (first | exact List.Sublist.refl _ | exact List.nil_sublist _ | refine List.Sublist.cons_cons _ ?_ | refine List.Sublist.cons _ ?_)) (C_mod _ (by kernel_rfl) rfl (by repeat (first | exact Upd.here _ _ | apply Upd.there)) (fun w hp => rtake_calls b23 most every t n _ 46 w (hp.held (b23, .cells (bkt most every t n) 46) (by simp)) hk)) ?_; rintro _ _ ⟨rfl, rfl⟩; refine ⟨by simp, ?_⟩
          refine WD.q rfl rfl (V_neq rfl rfl) ?_
          refine WD.q rfl rfl (V_move rfl) ?_
          first | refine WD.yes rfl rfl rfl (by simp) (V_move rfl) ?_
          first | refine WD.yes rfl rfl rfl (by simp) (V_move rfl) ?_
          first | refine WD.yes rfl rfl rfl (by simp) (V_move rfl) ?_
          first | refine WD.yes rfl rfl rfl (by simp) (V_indexAddrS 1 (by kernel_rfl) rfl rfl (by omega) (by omega)) ?_
          first | refine WD.yes rfl rfl rfl (by simp) (V_loadInt (k := .i64) (zs := zs) i (by kernel_rfl) rfl (hA.at (by simp)) (by simp) (by omega)) ?_
          first | refine WD.yes rfl rfl rfl (by simp) (V_move rfl) ?_
          first | refine WD.yes rfl rfl rfl (by simp) (V_move rfl) ?_
          first | refine WD.yes rfl rfl rfl (by simp) (V_move rfl) ?_
          first | refine WD.yes rfl rfl rfl (by simp) (V_indexAddrS 1 (by kernel_rfl) rfl rfl (by omega) (by omega)) ?_
          first | refine WD.yes rfl rfl rfl (by simp) (V_loadInt (k := .i64) (zs := zs) i (by kernel_rfl) rfl (hA.at (by simp)) (by simp) (by omega)) ?_
          refine WD.l ?_
          refine WO.calY rfl rfl (by simp) rfl (by repeat (first | exact List.Sublist.refl _ | exact List.nil_sublist _ | refine List.Sublist.cons_cons _ ?_ | refine List.Sublist.cons _ ?_)) (C_pure _ (by kernel_rfl) rfl (fun w hp => has_calls b17 most every (takeT t (zs i)) (takeN most every t n (zs i)) _ w (At.hp (by repeat (first | exact At.head | exact AtW.at ‹_› (by simp) | apply At.tail)) hp) (hk.take _))) ?_; rintro _ _ ⟨rfl, rfl⟩; refine ⟨by simp, ?_⟩
          refine WD.l ?_
          refine WO.calY rfl rfl (by simp) rfl (by repeat (first | exact List.Sublist.refl _ | exact List.nil_sublist _ | refine List.Sublist.cons_cons _ ?_ | refine List.Sublist.cons _ ?_)) (C_pure _ (by kernel_rfl) rfl (fun w hp => rhas_calls b23 most every (takeT t (zs i)) (takeN most every t n (zs i)) _ w (At.hp (by repeat (first | exact At.head | exact AtW.at ‹_› (by simp) | apply At.tail)) hp) (hk.take _))) ?_; rintro _ _ ⟨rfl, rfl⟩; refine ⟨by simp, ?_⟩
          first | refine WD.yes rfl rfl rfl (by simp) (V_neq rfl rfl) ?_
          refine WD.q rfl rfl (V_pick_f rfl (by simp) rfl) ?_
          refine WD.done ?_
          refine WQ.then ?_
          refine W.cond_false rfl (by simp) ?_
          refine W.skip ?_
          refine WQ.block_normal ?_
          refine WQ.then ?_
          refine W.region ?_
          refine WL.mv rfl rfl ?_
          first | refine WL.val rfl (V_addN rfl rfl (by omega)) ?_ | refine WL.val rfl (V_add rfl rfl) ?_
          refine WL.as rfl rfl ?_
          refine WL.nil ?_
          exact WQ.again (i + 1, takeT t (zs i), takeN most every t n (zs i)) [2, 7, 8, 10, 12] (by exact ⟨by omega, hk.take _⟩) (by show len - (i + 1) < len - i; omega) rfl (by repeat (first | exact List.Sublist.refl _ | exact List.nil_sublist _ | refine List.Sublist.cons_cons _ ?_ | refine List.Sublist.cons _ ?_))
      ·
        refine WL.no rfl rfl (decide_eq_false g3) ?_
        refine WL.no rfl rfl (decide_eq_false g3) ?_
        refine WL.no rfl rfl (decide_eq_false g3) ?_
        refine WL.no rfl rfl (decide_eq_false g3) ?_
        refine WL.no rfl rfl (decide_eq_false g3) ?_
        refine WL.val rfl (V_pick_fd rfl g3 rfl) ?_
        refine WL.nil ?_
        refine WQ.then ?_
        refine W.cond_false rfl rfl ?_
        refine W.skip ?_
        refine WQ.then ?_
        refine W.seq ?_
        refine W.drawn (.q 0 (.q 1 (.q 2 (.q 3 (.q 4 (.q 6 (.q 7 (.q 8 (.q 9 (.q 10 (.l 5 (.l 11 (.q 12 (.q 13 (.q 14 (.q 15 (.q 16 (.q 17 (.q 18 (.q 20 (.q 21 (.q 22 (.q 23 (.q 24 (.l 19 (.l 25 (.q 26 (.q 27 (.done))))))))))))))))))))))))))))) [] (by kernel_rfl) (fun _ a d _ _ h => by cases d <;> exact h) (by kernel_rfl) (by repeat (first | exact List.Sublist.refl _ | exact List.nil_sublist _ | refine List.Sublist.cons_cons _ ?_ | refine List.Sublist.cons _ ?_)) ?_
        refine WD.q rfl rfl (V_move rfl) ?_
        refine WD.q rfl rfl (V_move rfl) ?_
        refine WD.q rfl rfl (V_move rfl) ?_
        refine WD.q rfl rfl (V_indexAddrS 1 (by kernel_rfl) rfl rfl (by omega) (by omega)) ?_
        refine WD.q rfl rfl (V_loadInt (k := .i64) (zs := zs) i (by kernel_rfl) rfl (hA.at (by simp)) (by simp) (by omega)) ?_
        refine WD.q rfl rfl (V_move rfl) ?_
        refine WD.q rfl rfl (V_move rfl) ?_
        refine WD.q rfl rfl (V_move rfl) ?_
        refine WD.q rfl rfl (V_indexAddrS 1 (by kernel_rfl) rfl rfl (by omega) (by omega)) ?_
        refine WD.q rfl rfl (V_loadInt (k := .i64) (zs := zs) i (by kernel_rfl) rfl (hA.at (by simp)) (by simp) (by omega)) ?_
        refine WD.l ?_
        refine WO.cal rfl rfl (by repeat (first | exact List.Sublist.refl _ | exact List.nil_sublist _ | refine List.Sublist.cons_cons _ ?_ | refine List.Sublist.cons _ ?_)) (C_mod _ (by kernel_rfl) rfl (by repeat (first | exact Upd.here _ _ | apply Upd.there)) (fun w hp => take_calls b17 most every t n _ 43 w (hp.held (b17, .cells (bkt most every t n) 43) (by simp)) hk)) ?_; rintro _ _ ⟨rfl, rfl⟩; refine ⟨by simp, ?_⟩
        refine WD.l ?_
        refine WO.cal rfl rfl (by repeat (first | exact List.Sublist.refl _ | exact List.nil_sublist _ | refine List.Sublist.cons_cons _ ?_ | refine List.Sublist.cons _ ?_)) (C_mod _ (by kernel_rfl) rfl (by repeat (first | exact Upd.here _ _ | apply Upd.there)) (fun w hp => rtake_calls b23 most every t n _ 46 w (hp.held (b23, .cells (bkt most every t n) 46) (by simp)) hk)) ?_; rintro _ _ ⟨rfl, rfl⟩; refine ⟨by simp, ?_⟩
        refine WD.q rfl rfl (V_neq rfl rfl) ?_
        refine WD.q rfl rfl (V_move rfl) ?_
        first | refine WD.yes rfl rfl rfl (by simp) (V_move rfl) ?_
        first | refine WD.yes rfl rfl rfl (by simp) (V_move rfl) ?_
        first | refine WD.yes rfl rfl rfl (by simp) (V_move rfl) ?_
        first | refine WD.yes rfl rfl rfl (by simp) (V_indexAddrS 1 (by kernel_rfl) rfl rfl (by omega) (by omega)) ?_
        first | refine WD.yes rfl rfl rfl (by simp) (V_loadInt (k := .i64) (zs := zs) i (by kernel_rfl) rfl (hA.at (by simp)) (by simp) (by omega)) ?_
        first | refine WD.yes rfl rfl rfl (by simp) (V_move rfl) ?_
        first | refine WD.yes rfl rfl rfl (by simp) (V_move rfl) ?_
        first | refine WD.yes rfl rfl rfl (by simp) (V_move rfl) ?_
        first | refine WD.yes rfl rfl rfl (by simp) (V_indexAddrS 1 (by kernel_rfl) rfl rfl (by omega) (by omega)) ?_
        first | refine WD.yes rfl rfl rfl (by simp) (V_loadInt (k := .i64) (zs := zs) i (by kernel_rfl) rfl (hA.at (by simp)) (by simp) (by omega)) ?_
        refine WD.l ?_
        refine WO.calY rfl rfl (by simp) rfl (by repeat (first | exact List.Sublist.refl _ | exact List.nil_sublist _ | refine List.Sublist.cons_cons _ ?_ | refine List.Sublist.cons _ ?_)) (C_pure _ (by kernel_rfl) rfl (fun w hp => has_calls b17 most every (takeT t (zs i)) (takeN most every t n (zs i)) _ w (At.hp (by repeat (first | exact At.head | exact AtW.at ‹_› (by simp) | apply At.tail)) hp) (hk.take _))) ?_; rintro _ _ ⟨rfl, rfl⟩; refine ⟨by simp, ?_⟩
        refine WD.l ?_
        refine WO.calY rfl rfl (by simp) rfl (by repeat (first | exact List.Sublist.refl _ | exact List.nil_sublist _ | refine List.Sublist.cons_cons _ ?_ | refine List.Sublist.cons _ ?_)) (C_pure _ (by kernel_rfl) rfl (fun w hp => rhas_calls b23 most every (takeT t (zs i)) (takeN most every t n (zs i)) _ w (At.hp (by repeat (first | exact At.head | exact AtW.at ‹_› (by simp) | apply At.tail)) hp) (hk.take _))) ?_; rintro _ _ ⟨rfl, rfl⟩; refine ⟨by simp, ?_⟩
        first | refine WD.yes rfl rfl rfl (by simp) (V_neq rfl rfl) ?_
        refine WD.q rfl rfl (V_pick_f rfl (by simp) rfl) ?_
        refine WD.done ?_
        refine WQ.then ?_
        refine W.cond_false rfl (by simp) ?_
        refine W.skip ?_
        refine WQ.block_normal ?_
        refine WQ.then ?_
        refine W.region ?_
        refine WL.mv rfl rfl ?_
        first | refine WL.val rfl (V_addN rfl rfl (by omega)) ?_ | refine WL.val rfl (V_add rfl rfl) ?_
        refine WL.as rfl rfl ?_
        refine WL.nil ?_
        exact WQ.again (i + 1, takeT t (zs i), takeN most every t n (zs i)) [2, 7, 8, 10, 12] (by exact ⟨by omega, hk.take _⟩) (by show len - (i + 1) < len - i; omega) rfl (by repeat (first | exact List.Sublist.refl _ | exact List.nil_sublist _ | refine List.Sublist.cons_cons _ ?_ | refine List.Sublist.cons _ ?_))
    ·
      refine WL.no rfl rfl (decide_eq_false g2) ?_
      refine WL.no rfl rfl (decide_eq_false g2) ?_
      refine WL.val rfl (V_pick_fd rfl g2 rfl) ?_
      refine WL.nil ?_
      refine WQ.then ?_
      refine W.cond_false rfl rfl ?_
      refine W.exit ?_
      refine WQ.then_exit ?_
      refine WQ.then_exit ?_
      refine WQ.block_hit ?_
      refine WQ.then ?_
      refine W.seq ?_
      refine W.region ?_
      refine WL.mv rfl rfl ?_
      refine WL.as rfl rfl ?_
      refine WL.nil ?_
      refine WQ.then ?_
      refine W.ret ?_
      refine WQ.ret1 Try.results3 (.tmp rfl) ?_
      intro w' hp; exact ⟨rfl, hp.forget⟩
  ·
    refine WL.no rfl rfl (decide_eq_false g1) ?_
    refine WL.no rfl rfl (decide_eq_false g1) ?_
    refine WL.val rfl (V_pick_fd rfl g1 rfl) ?_
    refine WL.mv rfl rfl ?_
    refine WL.no rfl rfl rfl ?_
    refine WL.no rfl rfl rfl ?_
    refine WL.val rfl (V_pick_f rfl rfl rfl) ?_
    refine WL.nil ?_
    refine WQ.then ?_
    refine W.cond_false rfl rfl ?_
    refine W.exit ?_
    refine WQ.then_exit ?_
    refine WQ.then_exit ?_
    refine WQ.block_hit ?_
    refine WQ.then ?_
    refine W.seq ?_
    refine W.region ?_
    refine WL.mv rfl rfl ?_
    refine WL.as rfl rfl ?_
    refine WL.nil ?_
    refine WQ.then ?_
    refine W.ret ?_
    refine WQ.ret1 Try.results3 (.tmp rfl) ?_
    intro w' hp; exact ⟨rfl, hp.forget⟩

theorem plays_callsBad (most every : Int) (A : Option Addr) (len cap : Nat) (w : World) (hm : ¬ mayB most every) :
    Calls Try.prog 3 [.int .i64 most, .int .i64 every, .slice A len cap].toArray w fun e w' => e = .returned (.bool true) ∧ HP w w' [] [] := by
  refine calls_of_W Try.func3 rfl Try.ntmps3 rfl rfl (HP.refl w []) ?_
  refine W.seq ?_
  refine W.region ?_
  refine WL.as rfl rfl ?_
  refine WL.nil ?_
  refine WQ.then ?_
  refine W.seq ?_
  refine W.region ?_
  refine WL.pure _ rfl (by kernel_rfl) rfl (fun w hp => awake_calls w) ?_
  refine WL.as rfl rfl ?_
  refine WL.nil ?_
  refine WQ.then ?_
  refine W.seq ?_
  refine W.region ?_
  refine WL.mv rfl rfl ?_
  refine WL.mv rfl rfl ?_
  refine WL.pure _ rfl (by kernel_rfl) rfl (fun w hp => newbad_calls most every w hm) ?_
  refine WL.mv rfl rfl ?_
  refine WL.val rfl (V_extract rfl rfl) ?_
  refine WL.val rfl (V_extract rfl rfl) ?_
  refine WL.as rfl rfl ?_
  refine WL.as rfl rfl ?_
  refine WL.nil ?_
  refine WQ.then ?_
  refine W.seq ?_
  refine W.region ?_
  refine WL.mv rfl rfl ?_
  refine WL.mv rfl rfl ?_
  refine WL.pure _ rfl (by kernel_rfl) rfl (fun w hp => rnewbad_calls most every w hm) ?_
  refine WL.mv rfl rfl ?_
  refine WL.val rfl (V_extract rfl rfl) ?_
  refine WL.val rfl (V_extract rfl rfl) ?_
  refine WL.as rfl rfl ?_
  refine WL.as rfl rfl ?_
  refine WL.nil ?_
  refine WQ.then ?_
  refine W.seq ?_
  refine W.seq ?_
  refine W.region ?_
  refine WL.mv rfl rfl ?_
  refine WL.mv rfl rfl ?_
  refine WL.val rfl (V_neq rfl rfl) ?_
  refine WL.mv rfl rfl ?_
  refine WL.yes rfl (by decide) ?_
  refine WL.mv rfl rfl ?_
  refine WL.yes rfl (by decide) ?_
  refine WL.val rfl (V_eqlP (by kernel_rfl) rfl rfl) ?_
  refine WL.yes rfl (by decide) ?_
  refine WL.mv rfl rfl ?_
  refine WL.yes rfl (by decide) ?_
  refine WL.val rfl (V_eqlP (by kernel_rfl) rfl rfl) ?_
  refine WL.yes rfl (by decide) ?_
  refine WL.val rfl (V_neqB (by kernel_rfl) rfl rfl) ?_
  refine WL.val rfl (V_pick_f rfl (by decide) rfl) ?_
  refine WL.nil ?_
  refine WQ.then ?_
  refine W.cond_false rfl rfl ?_
  refine W.skip ?_
  refine WQ.then ?_
  refine W.seq ?_
  refine W.seq ?_
  refine W.region ?_
  refine WL.as rfl rfl ?_
  refine WL.nil ?_
  refine WQ.then ?_
  refine W.block ?_
  -- LOOP
  refine W.pick [2, 7, 8, 10, 12] rfl ?_
  refine W.loop (σ := Unit) (fun _ => True) (fun s => [(2, .slice A len cap), (7, .bool true), (8, .pointer none), (10, .pointer none), (12, .int .i64 0)]) (fun s => []) (fun s => 0) () rfl rfl trivial ?_
  rintro _ _
  refine W.seq ?_
  refine W.seq ?_
  refine W.region ?_
  refine WL.mv rfl rfl ?_
  refine WL.mv rfl rfl ?_
  refine WL.val rfl (V_lenS (by kernel_rfl) rfl) ?_
  refine WL.val rfl (V_lss rfl rfl) ?_
  refine WL.mv rfl rfl ?_
  refine WL.splitD rfl (fun g1 => ?_) (fun g1 => ?_)
  ·
    refine WL.yes rfl (decide_eq_true g1) ?_
    refine WL.mv rfl rfl ?_
    refine WL.yes rfl (decide_eq_true g1) ?_
    refine WL.val rfl (V_lss rfl rfl) ?_
    refine WL.val rfl (V_pick_td rfl g1 rfl) ?_
    refine WL.mv rfl rfl ?_
    refine WL.splitD rfl (fun g2 => ?_) (fun g2 => ?_)
    ·
      refine WL.yes rfl (decide_eq_true g2) ?_
      refine WL.mv rfl rfl ?_
      refine WL.yes rfl (decide_eq_true g2) ?_
      refine WL.val rfl (V_neqP (by kernel_rfl) rfl rfl) ?_
      refine WL.val rfl (V_pick_td rfl g2 rfl) ?_
      refine WL.nil ?_
      refine WQ.then ?_
      refine W.cond_false rfl rfl ?_
      refine W.exit ?_
      refine WQ.then_exit ?_
      refine WQ.then_exit ?_
      refine WQ.block_hit ?_
      refine WQ.then ?_
      refine W.seq ?_
      refine W.region ?_
      refine WL.mv rfl rfl ?_
      refine WL.as rfl rfl ?_
      refine WL.nil ?_
      refine WQ.then ?_
      refine W.ret ?_
      refine WQ.ret1 Try.results3 (.tmp rfl) ?_
      intro w' hp; exact ⟨rfl, hp.forget⟩
    ·
      refine WL.no rfl rfl (decide_eq_false g2) ?_
      refine WL.no rfl rfl (decide_eq_false g2) ?_
      refine WL.val rfl (V_pick_fd rfl g2 rfl) ?_
      refine WL.nil ?_
      refine WQ.then ?_
      refine W.cond_false rfl rfl ?_
      refine W.exit ?_
      refine WQ.then_exit ?_
      refine WQ.then_exit ?_
      refine WQ.block_hit ?_
      refine WQ.then ?_
      refine W.seq ?_
      refine W.region ?_
      refine WL.mv rfl rfl ?_
      refine WL.as rfl rfl ?_
      refine WL.nil ?_
      refine WQ.then ?_
      refine W.ret ?_
      refine WQ.ret1 Try.results3 (.tmp rfl) ?_
      intro w' hp; exact ⟨rfl, hp.forget⟩
  ·
    refine WL.no rfl rfl (decide_eq_false g1) ?_
    refine WL.no rfl rfl (decide_eq_false g1) ?_
    refine WL.val rfl (V_pick_fd rfl g1 rfl) ?_
    refine WL.mv rfl rfl ?_
    refine WL.no rfl rfl rfl ?_
    refine WL.no rfl rfl rfl ?_
    refine WL.val rfl (V_pick_f rfl rfl rfl) ?_
    refine WL.nil ?_
    refine WQ.then ?_
    refine W.cond_false rfl rfl ?_
    refine W.exit ?_
    refine WQ.then_exit ?_
    refine WQ.then_exit ?_
    refine WQ.block_hit ?_
    refine WQ.then ?_
    refine W.seq ?_
    refine W.region ?_
    refine WL.mv rfl rfl ?_
    refine WL.as rfl rfl ?_
    refine WL.nil ?_
    refine WQ.then ?_
    refine W.ret ?_
    refine WQ.ret1 Try.results3 (.tmp rfl) ?_
    intro w' hp; exact ⟨rfl, hp.forget⟩

end Go.Proofs.Ytlkmdhajfkkppaa