/- What the functions of package bucket come to. -/
import Derived.Test.YtmeckbjinmgbbaaGreatRows
import Derived.Test.YtmeckbjinmgbbaaGreatXA
set_option linter.unusedVariables false
set_option linter.unusedSimpArgs false

namespace Go.Proofs.YtmeckbjinmgbbaaGreat
open Go.X

/-- A bucket's cells. -/
def bkt (most every time many : Int) : List Seg := [(1, [.int .i64 most]), (1, [.int .i64 every]), (1, [.int .i64 time]), (1, [.int .i64 many])]

theorem aload_calls (b o : Nat) (cs : List Seg) (n : Int) (w : World) (hA : AtW w b cs) (hv : cell1 cs (o + 0) = some (.int .i64 n)) :
    Calls Tryz.prog 116 [.pointer (some ⟨b, o, none⟩)].toArray w fun e w' => e = .returned (.int .i64 n) ∧ HP w w' [] [] := by
  refine calls_of_W Tryz.func116 rfl Tryz.ntmps116 rfl rfl (HP.refl w []) ?_
  refine W.seq ?_
  refine W.region ?_
  refine WL.as rfl rfl ?_
  refine WL.nil ?_
  refine WQ.then ?_
  refine W.seq ?_
  refine W.region ?_
  refine WL.mv rfl rfl ?_
  refine WL.val rfl (V_nil rfl) ?_
  refine WL.val rfl (V_fieldAddr 0 1 (by kernel_rfl) rfl) ?_
  refine WL.val rfl (V_aload ⟨_, Tryz.func133, by kernel_rfl, by kernel_rfl, by kernel_rfl, by kernel_rfl⟩ rfl (hA.at (by simp)) hv) ?_
  refine WL.as rfl rfl ?_
  refine WL.nil ?_
  refine WQ.then ?_
  refine W.ret ?_
  refine WQ.ret1 Tryz.results116 (.tmp rfl) ?_
  intro w' hp; exact ⟨rfl, hp.forget⟩

theorem astore_calls (b o : Nat) (cs cs' : List Seg) (t : TypeId) (n : Int) (w : World) (hA : (Blk.cells cs t).Is w.heap[b]?) (hs : set1 cs (o + 0) (.int .i64 n) = some cs') :
    Calls Tryz.prog 80 [.pointer (some ⟨b, o, none⟩), .int .i64 n].toArray w fun e w' => e = .returned (.tuple #[]) ∧ HP w w' [b] [(b, .cells cs' t)] := by
  refine calls_of_W Tryz.func80 rfl Tryz.ntmps80 rfl rfl (HP.start (O := [b]) (L := [(b, .cells cs t)]) (by simpa using hA) (by simp) (by simp)) ?_
  refine W.region ?_
  refine WL.mv rfl rfl ?_
  refine WL.val rfl (V_nil rfl) ?_
  refine WL.val rfl (V_fieldAddr 0 1 (by kernel_rfl) rfl) ?_
  refine WL.mv rfl rfl ?_
  refine WL.eff (d := some 8) rfl (E_astore ⟨_, Tryz.func117, by kernel_rfl, by kernel_rfl, by kernel_rfl, by kernel_rfl⟩ rfl hs (.here _ _)) ?_; rintro _ _ ⟨rfl, rfl⟩
  refine WL.nil ?_
  refine WQ.ret0 (.inr rfl) Tryz.results80 ?_
  intro w' hp; exact ⟨rfl, hp⟩

theorem aadd_calls (b o : Nat) (cs cs' : List Seg) (t : TypeId) (m n : Int) (w : World) (hA : (Blk.cells cs t).Is w.heap[b]?) (hm : cell1 cs (o + 0) = some (.int .i64 m)) (hs : set1 cs (o + 0) (.int .i64 (IntKind.i64.wrap (m + n))) = some cs') :
    Calls Tryz.prog 81 [.pointer (some ⟨b, o, none⟩), .int .i64 n].toArray w fun e w' => e = .returned (.int .i64 (IntKind.i64.wrap (m + n))) ∧ HP w w' [b] [(b, .cells cs' t)] := by
  refine calls_of_W Tryz.func81 rfl Tryz.ntmps81 rfl rfl (HP.start (O := [b]) (L := [(b, .cells cs t)]) (by simpa using hA) (by simp) (by simp)) ?_
  refine W.seq ?_
  refine W.region ?_
  refine WL.as rfl rfl ?_
  refine WL.nil ?_
  refine WQ.then ?_
  refine W.seq ?_
  refine W.region ?_
  refine WL.mv rfl rfl ?_
  refine WL.val rfl (V_nil rfl) ?_
  refine WL.val rfl (V_fieldAddr 0 1 (by kernel_rfl) rfl) ?_
  refine WL.mv rfl rfl ?_
  refine WL.eff (d := some 9) rfl (E_aadd ⟨_, Tryz.func118, by kernel_rfl, by kernel_rfl, by kernel_rfl, by kernel_rfl⟩ rfl hm hs (.here _ _)) ?_; rintro _ _ ⟨rfl, rfl⟩
  refine WL.as rfl rfl ?_
  refine WL.nil ?_
  refine WQ.then ?_
  refine W.ret ?_
  refine WQ.ret1 Tryz.results81 (.tmp rfl) ?_
  intro w' hp; exact ⟨rfl, hp⟩

theorem past_calls (b : Nat) (most every time many now : Int) (w : World) (hA : AtW w b (bkt most every time many)) :
    Calls Tryz.prog 78 [.pointer (some ⟨b, 0, none⟩), .int .i64 now].toArray w fun e w' => e = .returned (.bool (decide (now < time))) ∧ HP w w' [] [] := by
  refine calls_of_W Tryz.func78 rfl Tryz.ntmps78 rfl rfl (HP.refl w []) ?_
  refine W.seq ?_
  refine W.region ?_
  refine WL.as rfl rfl ?_
  refine WL.nil ?_
  refine WQ.then ?_
  refine W.seq ?_
  refine W.region ?_
  refine WL.mv rfl rfl ?_
  refine WL.mv rfl rfl ?_
  refine WL.val rfl (V_nil rfl) ?_
  refine WL.val rfl (V_fieldAddr 2 1 (by kernel_rfl) rfl) ?_
  refine WL.pure _ rfl (by kernel_rfl) rfl (fun w hp => aload_calls b _ (bkt most every time many) _ w (hA.step hp (by simp)) rfl) ?_
  refine WL.val rfl (V_lss rfl rfl) ?_
  refine WL.as rfl rfl ?_
  refine WL.nil ?_
  refine WQ.then ?_
  refine W.ret ?_
  refine WQ.ret1 Tryz.results78 (.tmp rfl) ?_
  intro w' hp; exact ⟨rfl, hp.forget⟩

theorem at_calls (b : Nat) (most every time many now : Int) (w : World) (hA : AtW w b (bkt most every time many)) (h0 : 0 ≤ time) (h1 : time ≤ now) (h2 : now ≤ 1000000) (h3 : 1 ≤ every) (h4 : 0 ≤ many) (h5 : many ≤ most) (h6 : most ≤ 1000) :
    Calls Tryz.prog 79 [.pointer (some ⟨b, 0, none⟩), .int .i64 now].toArray w fun e w' => e = .returned (AG [(1, [.int .i64 now]), (1, [.int .i64 (min most (many + (now / every - time / every)))])]) ∧ HP w w' [] [] := by

  have hq : 0 ≤ now / every ∧ now / every ≤ now := ⟨Int.ediv_nonneg (by omega) (by omega), Int.ediv_le_self _ (by omega)⟩
  have hr : 0 ≤ time / every ∧ time / every ≤ time := ⟨Int.ediv_nonneg (by omega) (by omega), Int.ediv_le_self _ (by omega)⟩
  refine calls_of_W Tryz.func79 rfl Tryz.ntmps79 rfl rfl (HP.refl w []) ?_
  refine W.seq ?_
  refine W.region ?_
  refine WL.new rfl (E_alloc (zs := [(1, [.int .i64 0]), (1, [.int .i64 0])]) ⟨by kernel_rfl, by repeat (first | exact Fit.nil | refine Fit.mk (by first | rfl | (simp; done) | (simp [iv_len]; done) | simp [iv_len, *]) ?_)⟩) ?_; intro b4
  refine WL.nil ?_
  refine WQ.then ?_
  refine W.seq ?_
  refine W.drawn (.q 0 (.q 1 (.q 2 (.q 4 (.q 5 (.q 6 (.l2 3 (.l2 7 (.q 8 (.l 9 (.l 10 (.done)))) 9 (.l 7 (.q 8 (.l 10 (.done))))) 9 (.l 3 (.l 7 (.q 8 (.l 10 (.done)))))))))))) [] (by kernel_rfl) (fun _ a d _ _ h => by cases d <;> exact h) (by kernel_rfl) (by repeat (first | exact List.Sublist.refl _ | exact List.nil_sublist _ | refine List.Sublist.cons_cons _ ?_ | refine List.Sublist.cons _ ?_)) ?_
  refine WD.q rfl rfl (V_move rfl) ?_
  refine WD.q rfl rfl (V_nil rfl) ?_
  refine WD.q rfl rfl (V_fieldAddr 2 1 (by kernel_rfl) rfl) ?_
  refine WD.q rfl rfl (V_move rfl) ?_
  refine WD.q rfl rfl (V_nil rfl) ?_
  refine WD.q rfl rfl (V_fieldAddr 3 1 (by kernel_rfl) rfl) ?_
  refine WD.l2 ?_ ?_
  ·
    refine WO.cal rfl rfl (List.nil_sublist _) (C_pure _ (by kernel_rfl) rfl (fun w hp => aload_calls b _ (bkt most every time many) _ w (hA.step hp (by simp)) rfl)) ?_; rintro _ _ ⟨rfl, rfl⟩; refine ⟨by simp, ?_⟩
    refine WD.l2 ?_ ?_
    ·
      refine WO.cal rfl rfl (List.nil_sublist _) (C_pure _ (by kernel_rfl) rfl (fun w hp => aload_calls b _ (bkt most every time many) _ w (hA.step hp (by simp)) rfl)) ?_; rintro _ _ ⟨rfl, rfl⟩; refine ⟨by simp, ?_⟩
      refine WD.q rfl rfl (V_build (by kernel_rfl) (zs := [(1, [.int .i64 0]), (1, [.int .i64 0])]) ⟨by kernel_rfl, by repeat (first | exact Fit.nil | refine Fit.mk (by first | rfl | (simp; done) | (simp [iv_len]; done) | simp [iv_len, *]) ?_)⟩ (.one (k := 0) rfl rfl (by kernel_rfl) rfl (.one (k := 1) rfl rfl (by kernel_rfl) rfl (.nil _)))) ?_
      refine WD.l ?_
      refine WO.eff rfl rfl (by repeat (first | exact List.Sublist.refl _ | exact List.nil_sublist _ | refine List.Sublist.cons_cons _ ?_ | refine List.Sublist.cons _ ?_)) (E_alloc (zs := [(1, [.int .i64 0]), (1, [.int .i64 0])]) ⟨by kernel_rfl, by repeat (first | exact Fit.nil | refine Fit.mk (by first | rfl | (simp; done) | (simp [iv_len]; done) | simp [iv_len, *]) ?_)⟩) ?_; rintro _ _ ⟨b5, rfl, rfl⟩; refine ⟨by simp, ?_⟩
      refine WD.l ?_
      refine WO.eff rfl rfl (by repeat (first | exact List.Sublist.refl _ | exact List.nil_sublist _ | refine List.Sublist.cons_cons _ ?_ | refine List.Sublist.cons _ ?_)) (E_storeA 2 (by kernel_rfl) rfl rfl (by first | rfl | (simp [flat]; done) | (simp [flat, iv_len]; done) | simp [flat, iv_len, *]) (by repeat (first | exact Fit.nil | refine Fit.mk (by first | rfl | (simp; done) | (simp [iv_len]; done) | simp [iv_len, *]) ?_)) (by first | (simp [flat, one]; done) | simp [flat, iv, one]) (by repeat (first | exact Upd.here _ _ | apply Upd.there)) (by rfl)) ?_; rintro _ _ ⟨rfl, rfl⟩; refine ⟨by simp, ?_⟩
      refine WD.done ?_
      refine WQ.then ?_
      refine W.seq ?_
      refine W.seq ?_
      refine W.drawn (.q 0 (.q 1 (.q 2 (.q 3 (.q 4 (.q 5 (.q 6 (.q 7 (.done))))))))) [(b5, _)] (by kernel_rfl) (fun _ a d _ _ h => by cases d <;> exact h) (by kernel_rfl) (by repeat (first | exact List.Sublist.refl _ | exact List.nil_sublist _ | refine List.Sublist.cons_cons _ ?_ | refine List.Sublist.cons _ ?_)) ?_
      refine WD.q rfl rfl (V_loadA 2 (by kernel_rfl) rfl (by repeat (first | exact At.head | exact AtW.at ‹_› (by simp) | apply At.tail)) (by rfl)) ?_
      refine WD.q rfl rfl (V_move rfl) ?_
      refine WD.q rfl rfl (V_move rfl) ?_
      refine WD.q rfl rfl (V_nil rfl) ?_
      refine WD.q rfl rfl (V_fieldAddr 0 1 (by kernel_rfl) rfl) ?_
      refine WD.q rfl rfl (V_load (by kernel_rfl) rfl (by repeat (first | exact At.head | exact AtW.at ‹_› (by simp) | apply At.tail)) (by rfl)) ?_
      refine WD.q rfl rfl (V_build (by kernel_rfl) (zs := [(1, [.int .i64 0]), (1, [.int .i64 0])]) ⟨by kernel_rfl, by repeat (first | exact Fit.nil | refine Fit.mk (by first | rfl | (simp; done) | (simp [iv_len]; done) | simp [iv_len, *]) ?_)⟩ (.one (k := 0) rfl rfl (by kernel_rfl) rfl (.one (k := 1) rfl rfl (by kernel_rfl) rfl (.nil _)))) ?_
      refine WD.q rfl rfl ((V_eqlA 3 [5, 5] (by decide) (by kernel_rfl) (by kernel_rfl) (by kernel_rfl) rfl rfl (by simp [flat, kd]) (by simp [flat, kd]))) ?_
      refine WD.done ?_
      refine WQ.then ?_
      refine W.cond rfl (fun g1 => ?_) (fun g1 => ?_)
      ·
        refine W.seq ?_
        refine W.region ?_
        refine WL.val rfl (V_loadA 2 (by kernel_rfl) rfl (by repeat (first | exact At.head | exact AtW.at ‹_› (by simp) | apply At.tail)) (by rfl)) ?_
        refine WL.storeA 2 (by kernel_rfl) rfl rfl (by first | rfl | (simp [flat]; done) | (simp [flat, iv_len]; done) | simp [flat, iv_len, *]) (by repeat (first | exact Fit.nil | refine Fit.mk (by first | rfl | (simp; done) | (simp [iv_len]; done) | simp [iv_len, *]) ?_)) (by first | (simp [flat, one]; done) | simp [flat, iv, one]) (by repeat (first | exact Upd.here _ _ | apply Upd.there)) (by rfl) ?_
        refine WL.nil ?_
        refine WQ.then ?_
        refine W.ret ?_
        refine WQ.then_ret ?_
        refine WQ.ret1 Tryz.results79 (.cellA 2 (by kernel_rfl) rfl (by repeat (first | exact At.head | exact AtW.at ‹_› (by simp) | apply At.tail)) (by rfl)) ?_
        intro w' hp; refine ⟨?_, hp.forget⟩; simp [flat, lEq, cEq] at g1; obtain ⟨rfl, rfl⟩ := g1; simp
      ·
        refine W.skip ?_
        refine WQ.then ?_
        refine W.seq ?_
        refine W.drawn (.q 0 (.q 1 (.q 2 (.q 3 (.q 4 (.q 5 (.q 6 (.q 7 (.q 8 (.q 9 (.q 10 (.q 11 (.q 12 (.q 13 (.q 14 (.done)))))))))))))))) [(b5, _)] (by kernel_rfl) (fun _ a d _ _ h => by cases d <;> exact h) (by kernel_rfl) (by repeat (first | exact List.Sublist.refl _ | exact List.nil_sublist _ | refine List.Sublist.cons_cons _ ?_ | refine List.Sublist.cons _ ?_)) ?_
        refine WD.q rfl rfl (V_move rfl) ?_
        refine WD.q rfl rfl (V_move rfl) ?_
        refine WD.q rfl rfl (V_nil rfl) ?_
        refine WD.q rfl rfl (V_fieldAddr 1 1 (by kernel_rfl) rfl) ?_
        refine WD.q rfl rfl (V_load (by kernel_rfl) rfl (by repeat (first | exact At.head | exact AtW.at ‹_› (by simp) | apply At.tail)) (by rfl)) ?_
        first | refine WD.q rfl rfl (V_quoN rfl rfl (by omega) (by omega) (by omega)) ?_ | refine WD.q rfl rfl (V_quo rfl rfl (by omega)) ?_
        refine WD.q rfl rfl (V_fieldAddr 0 1 (by kernel_rfl) rfl) ?_
        refine WD.q rfl rfl (V_load (by kernel_rfl) rfl (by repeat (first | exact At.head | exact AtW.at ‹_› (by simp) | apply At.tail)) (by rfl)) ?_
        refine WD.q rfl rfl (V_move rfl) ?_
        refine WD.q rfl rfl (V_nil rfl) ?_
        refine WD.q rfl rfl (V_fieldAddr 1 1 (by kernel_rfl) rfl) ?_
        refine WD.q rfl rfl (V_load (by kernel_rfl) rfl (by repeat (first | exact At.head | exact AtW.at ‹_› (by simp) | apply At.tail)) (by rfl)) ?_
        first | refine WD.q rfl rfl (V_quoN rfl rfl (by omega) (by omega) (by omega)) ?_ | refine WD.q rfl rfl (V_quo rfl rfl (by omega)) ?_
        first | refine WD.q rfl rfl (V_subN rfl rfl (by omega)) ?_ | refine WD.q rfl rfl (V_sub rfl rfl) ?_
        refine WD.q rfl rfl (V_assign rfl) ?_
        refine WD.done ?_
        refine WQ.then ?_
        refine W.seq ?_
        refine W.drawn (.q 0 (.q 1 (.q 2 (.q 3 (.q 4 (.q 5 (.q 6 (.q 7 (.q 8 (.q 9 (.q 10 (.l 11 (.done))))))))))))) [(b5, _)] (by kernel_rfl) (fun _ a d _ _ h => by cases d <;> exact h) (by kernel_rfl) (by repeat (first | exact List.Sublist.refl _ | exact List.nil_sublist _ | refine List.Sublist.cons_cons _ ?_ | refine List.Sublist.cons _ ?_)) ?_
        refine WD.q rfl rfl (V_move rfl) ?_
        refine WD.q rfl rfl (V_move rfl) ?_
        refine WD.q rfl rfl (V_nil rfl) ?_
        refine WD.q rfl rfl (V_fieldAddr 0 1 (by kernel_rfl) rfl) ?_
        refine WD.q rfl rfl (V_load (by kernel_rfl) rfl (by repeat (first | exact At.head | exact AtW.at ‹_› (by simp) | apply At.tail)) (by rfl)) ?_
        refine WD.q rfl rfl (V_fieldAddr 1 1 (by kernel_rfl) rfl) ?_
        refine WD.q rfl rfl (V_load (by kernel_rfl) rfl (by repeat (first | exact At.head | exact AtW.at ‹_› (by simp) | apply At.tail)) (by rfl)) ?_
        refine WD.q rfl rfl (V_move rfl) ?_
        first | refine WD.q rfl rfl (V_addN rfl rfl (by omega)) ?_ | refine WD.q rfl rfl (V_add rfl rfl) ?_
        refine WD.q rfl rfl (V_min rfl) ?_
        refine WD.q rfl rfl (V_build (by kernel_rfl) (zs := [(1, [.int .i64 0]), (1, [.int .i64 0])]) ⟨by kernel_rfl, by repeat (first | exact Fit.nil | refine Fit.mk (by first | rfl | (simp; done) | (simp [iv_len]; done) | simp [iv_len, *]) ?_)⟩ (.one (k := 0) rfl rfl (by kernel_rfl) rfl (.one (k := 1) rfl rfl (by kernel_rfl) rfl (.nil _)))) ?_
        refine WD.l ?_
        refine WO.eff rfl rfl (by repeat (first | exact List.Sublist.refl _ | exact List.nil_sublist _ | refine List.Sublist.cons_cons _ ?_ | refine List.Sublist.cons _ ?_)) (E_storeA 2 (by kernel_rfl) rfl rfl (by first | rfl | (simp [flat]; done) | (simp [flat, iv_len]; done) | simp [flat, iv_len, *]) (by repeat (first | exact Fit.nil | refine Fit.mk (by first | rfl | (simp; done) | (simp [iv_len]; done) | simp [iv_len, *]) ?_)) (by first | (simp [flat, one]; done) | simp [flat, iv, one]) (by repeat (first | exact Upd.here _ _ | apply Upd.there)) (by rfl)) ?_; rintro _ _ ⟨rfl, rfl⟩; refine ⟨by simp, ?_⟩
        refine WD.done ?_
        refine WQ.then ?_
        refine W.ret ?_
        refine WQ.ret1 Tryz.results79 (.cellA 2 (by kernel_rfl) rfl (by repeat (first | exact At.head | exact AtW.at ‹_› (by simp) | apply At.tail)) (by rfl)) ?_
        intro w' hp; exact ⟨rfl, hp.forget⟩
    ·
      refine WO.eff rfl rfl (by repeat (first | exact List.Sublist.refl _ | exact List.nil_sublist _ | refine List.Sublist.cons_cons _ ?_ | refine List.Sublist.cons _ ?_)) (E_alloc (zs := [(1, [.int .i64 0]), (1, [.int .i64 0])]) ⟨by kernel_rfl, by repeat (first | exact Fit.nil | refine Fit.mk (by first | rfl | (simp; done) | (simp [iv_len]; done) | simp [iv_len, *]) ?_)⟩) ?_; rintro _ _ ⟨b5, rfl, rfl⟩; refine ⟨by simp, ?_⟩
      refine WD.l ?_
      refine WO.cal rfl rfl (List.nil_sublist _) (C_pure _ (by kernel_rfl) rfl (fun w hp => aload_calls b _ (bkt most every time many) _ w (hA.step hp (by simp)) rfl)) ?_; rintro _ _ ⟨rfl, rfl⟩; refine ⟨by simp, ?_⟩
      refine WD.q rfl rfl (V_build (by kernel_rfl) (zs := [(1, [.int .i64 0]), (1, [.int .i64 0])]) ⟨by kernel_rfl, by repeat (first | exact Fit.nil | refine Fit.mk (by first | rfl | (simp; done) | (simp [iv_len]; done) | simp [iv_len, *]) ?_)⟩ (.one (k := 0) rfl rfl (by kernel_rfl) rfl (.one (k := 1) rfl rfl (by kernel_rfl) rfl (.nil _)))) ?_
      refine WD.l ?_
      refine WO.eff rfl rfl (by repeat (first | exact List.Sublist.refl _ | exact List.nil_sublist _ | refine List.Sublist.cons_cons _ ?_ | refine List.Sublist.cons _ ?_)) (E_storeA 2 (by kernel_rfl) rfl rfl (by first | rfl | (simp [flat]; done) | (simp [flat, iv_len]; done) | simp [flat, iv_len, *]) (by repeat (first | exact Fit.nil | refine Fit.mk (by first | rfl | (simp; done) | (simp [iv_len]; done) | simp [iv_len, *]) ?_)) (by first | (simp [flat, one]; done) | simp [flat, iv, one]) (by repeat (first | exact Upd.here _ _ | apply Upd.there)) (by rfl)) ?_; rintro _ _ ⟨rfl, rfl⟩; refine ⟨by simp, ?_⟩
      refine WD.done ?_
      refine WQ.then ?_
      refine W.seq ?_
      refine W.seq ?_
      refine W.drawn (.q 0 (.q 1 (.q 2 (.q 3 (.q 4 (.q 5 (.q 6 (.q 7 (.done))))))))) [(b5, _)] (by kernel_rfl) (fun _ a d _ _ h => by cases d <;> exact h) (by kernel_rfl) (by repeat (first | exact List.Sublist.refl _ | exact List.nil_sublist _ | refine List.Sublist.cons_cons _ ?_ | refine List.Sublist.cons _ ?_)) ?_
      refine WD.q rfl rfl (V_loadA 2 (by kernel_rfl) rfl (by repeat (first | exact At.head | exact AtW.at ‹_› (by simp) | apply At.tail)) (by rfl)) ?_
      refine WD.q rfl rfl (V_move rfl) ?_
      refine WD.q rfl rfl (V_move rfl) ?_
      refine WD.q rfl rfl (V_nil rfl) ?_
      refine WD.q rfl rfl (V_fieldAddr 0 1 (by kernel_rfl) rfl) ?_
      refine WD.q rfl rfl (V_load (by kernel_rfl) rfl (by repeat (first | exact At.head | exact AtW.at ‹_› (by simp) | apply At.tail)) (by rfl)) ?_
      refine WD.q rfl rfl (V_build (by kernel_rfl) (zs := [(1, [.int .i64 0]), (1, [.int .i64 0])]) ⟨by kernel_rfl, by repeat (first | exact Fit.nil | refine Fit.mk (by first | rfl | (simp; done) | (simp [iv_len]; done) | simp [iv_len, *]) ?_)⟩ (.one (k := 0) rfl rfl (by kernel_rfl) rfl (.one (k := 1) rfl rfl (by kernel_rfl) rfl (.nil _)))) ?_
      refine WD.q rfl rfl ((V_eqlA 3 [5, 5] (by decide) (by kernel_rfl) (by kernel_rfl) (by kernel_rfl) rfl rfl (by simp [flat, kd]) (by simp [flat, kd]))) ?_
      refine WD.done ?_
      refine WQ.then ?_
      refine W.cond rfl (fun g2 => ?_) (fun g2 => ?_)
      ·
        refine W.seq ?_
        refine W.region ?_
        refine WL.val rfl (V_loadA 2 (by kernel_rfl) rfl (by repeat (first | exact At.head | exact AtW.at ‹_› (by simp) | apply At.tail)) (by rfl)) ?_
        refine WL.storeA 2 (by kernel_rfl) rfl rfl (by first | rfl | (simp [flat]; done) | (simp [flat, iv_len]; done) | simp [flat, iv_len, *]) (by repeat (first | exact Fit.nil | refine Fit.mk (by first | rfl | (simp; done) | (simp [iv_len]; done) | simp [iv_len, *]) ?_)) (by first | (simp [flat, one]; done) | simp [flat, iv, one]) (by repeat (first | exact Upd.here _ _ | apply Upd.there)) (by rfl) ?_
        refine WL.nil ?_
        refine WQ.then ?_
        refine W.ret ?_
        refine WQ.then_ret ?_
        refine WQ.ret1 Tryz.results79 (.cellA 2 (by kernel_rfl) rfl (by repeat (first | exact At.head | exact AtW.at ‹_› (by simp) | apply At.tail)) (by rfl)) ?_
        intro w' hp; refine ⟨?_, hp.forget⟩; simp [flat, lEq, cEq] at g2; obtain ⟨rfl, rfl⟩ := g2; simp
      ·
        refine W.skip ?_
        refine WQ.then ?_
        refine W.seq ?_
        refine W.drawn (.q 0 (.q 1 (.q 2 (.q 3 (.q 4 (.q 5 (.q 6 (.q 7 (.q 8 (.q 9 (.q 10 (.q 11 (.q 12 (.q 13 (.q 14 (.done)))))))))))))))) [(b5, _)] (by kernel_rfl) (fun _ a d _ _ h => by cases d <;> exact h) (by kernel_rfl) (by repeat (first | exact List.Sublist.refl _ | exact List.nil_sublist _ | refine List.Sublist.cons_cons _ ?_ | refine List.Sublist.cons _ ?_)) ?_
        refine WD.q rfl rfl (V_move rfl) ?_
        refine WD.q rfl rfl (V_move rfl) ?_
        refine WD.q rfl rfl (V_nil rfl) ?_
        refine WD.q rfl rfl (V_fieldAddr 1 1 (by kernel_rfl) rfl) ?_
        refine WD.q rfl rfl (V_load (by kernel_rfl) rfl (by repeat (first | exact At.head | exact AtW.at ‹_› (by simp) | apply At.tail)) (by rfl)) ?_
        first | refine WD.q rfl rfl (V_quoN rfl rfl (by omega) (by omega) (by omega)) ?_ | refine WD.q rfl rfl (V_quo rfl rfl (by omega)) ?_
        refine WD.q rfl rfl (V_fieldAddr 0 1 (by kernel_rfl) rfl) ?_
        refine WD.q rfl rfl (V_load (by kernel_rfl) rfl (by repeat (first | exact At.head | exact AtW.at ‹_› (by simp) | apply At.tail)) (by rfl)) ?_
        refine WD.q rfl rfl (V_move rfl) ?_
        refine WD.q rfl rfl (V_nil rfl) ?_
        refine WD.q rfl rfl (V_fieldAddr 1 1 (by kernel_rfl) rfl) ?_
        refine WD.q rfl rfl (V_load (by kernel_rfl) rfl (by repeat (first | exact At.head | exact AtW.at ‹_› (by simp) | apply At.tail)) (by rfl)) ?_
        first | refine WD.q rfl rfl (V_quoN rfl rfl (by omega) (by omega) (by omega)) ?_ | refine WD.q rfl rfl (V_quo rfl rfl (by omega)) ?_
        first | refine WD.q rfl rfl (V_subN rfl rfl (by omega)) ?_ | refine WD.q rfl rfl (V_sub rfl rfl) ?_
        refine WD.q rfl rfl (V_assign rfl) ?_
        refine WD.done ?_
        refine WQ.then ?_
        refine W.seq ?_
        refine W.drawn (.q 0 (.q 1 (.q 2 (.q 3 (.q 4 (.q 5 (.q 6 (.q 7 (.q 8 (.q 9 (.q 10 (.l 11 (.done))))))))))))) [(b5, _)] (by kernel_rfl) (fun _ a d _ _ h => by cases d <;> exact h) (by kernel_rfl) (by repeat (first | exact List.Sublist.refl _ | exact List.nil_sublist _ | refine List.Sublist.cons_cons _ ?_ | refine List.Sublist.cons _ ?_)) ?_
        refine WD.q rfl rfl (V_move rfl) ?_
        refine WD.q rfl rfl (V_move rfl) ?_
        refine WD.q rfl rfl (V_nil rfl) ?_
        refine WD.q rfl rfl (V_fieldAddr 0 1 (by kernel_rfl) rfl) ?_
        refine WD.q rfl rfl (V_load (by kernel_rfl) rfl (by repeat (first | exact At.head | exact AtW.at ‹_› (by simp) | apply At.tail)) (by rfl)) ?_
        refine WD.q rfl rfl (V_fieldAddr 1 1 (by kernel_rfl) rfl) ?_
        refine WD.q rfl rfl (V_load (by kernel_rfl) rfl (by repeat (first | exact At.head | exact AtW.at ‹_› (by simp) | apply At.tail)) (by rfl)) ?_
        refine WD.q rfl rfl (V_move rfl) ?_
        first | refine WD.q rfl rfl (V_addN rfl rfl (by omega)) ?_ | refine WD.q rfl rfl (V_add rfl rfl) ?_
        refine WD.q rfl rfl (V_min rfl) ?_
        refine WD.q rfl rfl (V_build (by kernel_rfl) (zs := [(1, [.int .i64 0]), (1, [.int .i64 0])]) ⟨by kernel_rfl, by repeat (first | exact Fit.nil | refine Fit.mk (by first | rfl | (simp; done) | (simp [iv_len]; done) | simp [iv_len, *]) ?_)⟩ (.one (k := 0) rfl rfl (by kernel_rfl) rfl (.one (k := 1) rfl rfl (by kernel_rfl) rfl (.nil _)))) ?_
        refine WD.l ?_
        refine WO.eff rfl rfl (by repeat (first | exact List.Sublist.refl _ | exact List.nil_sublist _ | refine List.Sublist.cons_cons _ ?_ | refine List.Sublist.cons _ ?_)) (E_storeA 2 (by kernel_rfl) rfl rfl (by first | rfl | (simp [flat]; done) | (simp [flat, iv_len]; done) | simp [flat, iv_len, *]) (by repeat (first | exact Fit.nil | refine Fit.mk (by first | rfl | (simp; done) | (simp [iv_len]; done) | simp [iv_len, *]) ?_)) (by first | (simp [flat, one]; done) | simp [flat, iv, one]) (by repeat (first | exact Upd.here _ _ | apply Upd.there)) (by rfl)) ?_; rintro _ _ ⟨rfl, rfl⟩; refine ⟨by simp, ?_⟩
        refine WD.done ?_
        refine WQ.then ?_
        refine W.ret ?_
        refine WQ.ret1 Tryz.results79 (.cellA 2 (by kernel_rfl) rfl (by repeat (first | exact At.head | exact AtW.at ‹_› (by simp) | apply At.tail)) (by rfl)) ?_
        intro w' hp; exact ⟨rfl, hp.forget⟩
  ·
    refine WO.eff rfl rfl (by repeat (first | exact List.Sublist.refl _ | exact List.nil_sublist _ | refine List.Sublist.cons_cons _ ?_ | refine List.Sublist.cons _ ?_)) (E_alloc (zs := [(1, [.int .i64 0]), (1, [.int .i64 0])]) ⟨by kernel_rfl, by repeat (first | exact Fit.nil | refine Fit.mk (by first | rfl | (simp; done) | (simp [iv_len]; done) | simp [iv_len, *]) ?_)⟩) ?_; rintro _ _ ⟨b5, rfl, rfl⟩; refine ⟨by simp, ?_⟩
    refine WD.l ?_
    refine WO.cal rfl rfl (List.nil_sublist _) (C_pure _ (by kernel_rfl) rfl (fun w hp => aload_calls b _ (bkt most every time many) _ w (hA.step hp (by simp)) rfl)) ?_; rintro _ _ ⟨rfl, rfl⟩; refine ⟨by simp, ?_⟩
    refine WD.l ?_
    refine WO.cal rfl rfl (List.nil_sublist _) (C_pure _ (by kernel_rfl) rfl (fun w hp => aload_calls b _ (bkt most every time many) _ w (hA.step hp (by simp)) rfl)) ?_; rintro _ _ ⟨rfl, rfl⟩; refine ⟨by simp, ?_⟩
    refine WD.q rfl rfl (V_build (by kernel_rfl) (zs := [(1, [.int .i64 0]), (1, [.int .i64 0])]) ⟨by kernel_rfl, by repeat (first | exact Fit.nil | refine Fit.mk (by first | rfl | (simp; done) | (simp [iv_len]; done) | simp [iv_len, *]) ?_)⟩ (.one (k := 0) rfl rfl (by kernel_rfl) rfl (.one (k := 1) rfl rfl (by kernel_rfl) rfl (.nil _)))) ?_
    refine WD.l ?_
    refine WO.eff rfl rfl (by repeat (first | exact List.Sublist.refl _ | exact List.nil_sublist _ | refine List.Sublist.cons_cons _ ?_ | refine List.Sublist.cons _ ?_)) (E_storeA 2 (by kernel_rfl) rfl rfl (by first | rfl | (simp [flat]; done) | (simp [flat, iv_len]; done) | simp [flat, iv_len, *]) (by repeat (first | exact Fit.nil | refine Fit.mk (by first | rfl | (simp; done) | (simp [iv_len]; done) | simp [iv_len, *]) ?_)) (by first | (simp [flat, one]; done) | simp [flat, iv, one]) (by repeat (first | exact Upd.here _ _ | apply Upd.there)) (by rfl)) ?_; rintro _ _ ⟨rfl, rfl⟩; refine ⟨by simp, ?_⟩
    refine WD.done ?_
    refine WQ.then ?_
    refine W.seq ?_
    refine W.seq ?_
    refine W.drawn (.q 0 (.q 1 (.q 2 (.q 3 (.q 4 (.q 5 (.q 6 (.q 7 (.done))))))))) [(b5, _)] (by kernel_rfl) (fun _ a d _ _ h => by cases d <;> exact h) (by kernel_rfl) (by repeat (first | exact List.Sublist.refl _ | exact List.nil_sublist _ | refine List.Sublist.cons_cons _ ?_ | refine List.Sublist.cons _ ?_)) ?_
    refine WD.q rfl rfl (V_loadA 2 (by kernel_rfl) rfl (by repeat (first | exact At.head | exact AtW.at ‹_› (by simp) | apply At.tail)) (by rfl)) ?_
    refine WD.q rfl rfl (V_move rfl) ?_
    refine WD.q rfl rfl (V_move rfl) ?_
    refine WD.q rfl rfl (V_nil rfl) ?_
    refine WD.q rfl rfl (V_fieldAddr 0 1 (by kernel_rfl) rfl) ?_
    refine WD.q rfl rfl (V_load (by kernel_rfl) rfl (by repeat (first | exact At.head | exact AtW.at ‹_› (by simp) | apply At.tail)) (by rfl)) ?_
    refine WD.q rfl rfl (V_build (by kernel_rfl) (zs := [(1, [.int .i64 0]), (1, [.int .i64 0])]) ⟨by kernel_rfl, by repeat (first | exact Fit.nil | refine Fit.mk (by first | rfl | (simp; done) | (simp [iv_len]; done) | simp [iv_len, *]) ?_)⟩ (.one (k := 0) rfl rfl (by kernel_rfl) rfl (.one (k := 1) rfl rfl (by kernel_rfl) rfl (.nil _)))) ?_
    refine WD.q rfl rfl ((V_eqlA 3 [5, 5] (by decide) (by kernel_rfl) (by kernel_rfl) (by kernel_rfl) rfl rfl (by simp [flat, kd]) (by simp [flat, kd]))) ?_
    refine WD.done ?_
    refine WQ.then ?_
    refine W.cond rfl (fun g3 => ?_) (fun g3 => ?_)
    ·
      refine W.seq ?_
      refine W.region ?_
      refine WL.val rfl (V_loadA 2 (by kernel_rfl) rfl (by repeat (first | exact At.head | exact AtW.at ‹_› (by simp) | apply At.tail)) (by rfl)) ?_
      refine WL.storeA 2 (by kernel_rfl) rfl rfl (by first | rfl | (simp [flat]; done) | (simp [flat, iv_len]; done) | simp [flat, iv_len, *]) (by repeat (first | exact Fit.nil | refine Fit.mk (by first | rfl | (simp; done) | (simp [iv_len]; done) | simp [iv_len, *]) ?_)) (by first | (simp [flat, one]; done) | simp [flat, iv, one]) (by repeat (first | exact Upd.here _ _ | apply Upd.there)) (by rfl) ?_
      refine WL.nil ?_
      refine WQ.then ?_
      refine W.ret ?_
      refine WQ.then_ret ?_
      refine WQ.ret1 Tryz.results79 (.cellA 2 (by kernel_rfl) rfl (by repeat (first | exact At.head | exact AtW.at ‹_› (by simp) | apply At.tail)) (by rfl)) ?_
      intro w' hp; refine ⟨?_, hp.forget⟩; simp [flat, lEq, cEq] at g3; obtain ⟨rfl, rfl⟩ := g3; simp
    ·
      refine W.skip ?_
      refine WQ.then ?_
      refine W.seq ?_
      refine W.drawn (.q 0 (.q 1 (.q 2 (.q 3 (.q 4 (.q 5 (.q 6 (.q 7 (.q 8 (.q 9 (.q 10 (.q 11 (.q 12 (.q 13 (.q 14 (.done)))))))))))))))) [(b5, _)] (by kernel_rfl) (fun _ a d _ _ h => by cases d <;> exact h) (by kernel_rfl) (by repeat (first | exact List.Sublist.refl _ | exact List.nil_sublist _ | refine List.Sublist.cons_cons _ ?_ | refine List.Sublist.cons _ ?_)) ?_
      refine WD.q rfl rfl (V_move rfl) ?_
      refine WD.q rfl rfl (V_move rfl) ?_
      refine WD.q rfl rfl (V_nil rfl) ?_
      refine WD.q rfl rfl (V_fieldAddr 1 1 (by kernel_rfl) rfl) ?_
      refine WD.q rfl rfl (V_load (by kernel_rfl) rfl (by repeat (first | exact At.head | exact AtW.at ‹_› (by simp) | apply At.tail)) (by rfl)) ?_
      first | refine WD.q rfl rfl (V_quoN rfl rfl (by omega) (by omega) (by omega)) ?_ | refine WD.q rfl rfl (V_quo rfl rfl (by omega)) ?_
      refine WD.q rfl rfl (V_fieldAddr 0 1 (by kernel_rfl) rfl) ?_
      refine WD.q rfl rfl (V_load (by kernel_rfl) rfl (by repeat (first | exact At.head | exact AtW.at ‹_› (by simp) | apply At.tail)) (by rfl)) ?_
      refine WD.q rfl rfl (V_move rfl) ?_
      refine WD.q rfl rfl (V_nil rfl) ?_
      refine WD.q rfl rfl (V_fieldAddr 1 1 (by kernel_rfl) rfl) ?_
      refine WD.q rfl rfl (V_load (by kernel_rfl) rfl (by repeat (first | exact At.head | exact AtW.at ‹_› (by simp) | apply At.tail)) (by rfl)) ?_
      first | refine WD.q rfl rfl (V_quoN rfl rfl (by omega) (by omega) (by omega)) ?_ | refine WD.q rfl rfl (V_quo rfl rfl (by omega)) ?_
      first | refine WD.q rfl rfl (V_subN rfl rfl (by omega)) ?_ | refine WD.q rfl rfl (V_sub rfl rfl) ?_
      refine WD.q rfl rfl (V_assign rfl) ?_
      refine WD.done ?_
      refine WQ.then ?_
      refine W.seq ?_
      refine W.drawn (.q 0 (.q 1 (.q 2 (.q 3 (.q 4 (.q 5 (.q 6 (.q 7 (.q 8 (.q 9 (.q 10 (.l 11 (.done))))))))))))) [(b5, _)] (by kernel_rfl) (fun _ a d _ _ h => by cases d <;> exact h) (by kernel_rfl) (by repeat (first | exact List.Sublist.refl _ | exact List.nil_sublist _ | refine List.Sublist.cons_cons _ ?_ | refine List.Sublist.cons _ ?_)) ?_
      refine WD.q rfl rfl (V_move rfl) ?_
      refine WD.q rfl rfl (V_move rfl) ?_
      refine WD.q rfl rfl (V_nil rfl) ?_
      refine WD.q rfl rfl (V_fieldAddr 0 1 (by kernel_rfl) rfl) ?_
      refine WD.q rfl rfl (V_load (by kernel_rfl) rfl (by repeat (first | exact At.head | exact AtW.at ‹_› (by simp) | apply At.tail)) (by rfl)) ?_
      refine WD.q rfl rfl (V_fieldAddr 1 1 (by kernel_rfl) rfl) ?_
      refine WD.q rfl rfl (V_load (by kernel_rfl) rfl (by repeat (first | exact At.head | exact AtW.at ‹_› (by simp) | apply At.tail)) (by rfl)) ?_
      refine WD.q rfl rfl (V_move rfl) ?_
      first | refine WD.q rfl rfl (V_addN rfl rfl (by omega)) ?_ | refine WD.q rfl rfl (V_add rfl rfl) ?_
      refine WD.q rfl rfl (V_min rfl) ?_
      refine WD.q rfl rfl (V_build (by kernel_rfl) (zs := [(1, [.int .i64 0]), (1, [.int .i64 0])]) ⟨by kernel_rfl, by repeat (first | exact Fit.nil | refine Fit.mk (by first | rfl | (simp; done) | (simp [iv_len]; done) | simp [iv_len, *]) ?_)⟩ (.one (k := 0) rfl rfl (by kernel_rfl) rfl (.one (k := 1) rfl rfl (by kernel_rfl) rfl (.nil _)))) ?_
      refine WD.l ?_
      refine WO.eff rfl rfl (by repeat (first | exact List.Sublist.refl _ | exact List.nil_sublist _ | refine List.Sublist.cons_cons _ ?_ | refine List.Sublist.cons _ ?_)) (E_storeA 2 (by kernel_rfl) rfl rfl (by first | rfl | (simp [flat]; done) | (simp [flat, iv_len]; done) | simp [flat, iv_len, *]) (by repeat (first | exact Fit.nil | refine Fit.mk (by first | rfl | (simp; done) | (simp [iv_len]; done) | simp [iv_len, *]) ?_)) (by first | (simp [flat, one]; done) | simp [flat, iv, one]) (by repeat (first | exact Upd.here _ _ | apply Upd.there)) (by rfl)) ?_; rintro _ _ ⟨rfl, rfl⟩; refine ⟨by simp, ?_⟩
      refine WD.done ?_
      refine WQ.then ?_
      refine W.ret ?_
      refine WQ.ret1 Tryz.results79 (.cellA 2 (by kernel_rfl) rfl (by repeat (first | exact At.head | exact AtW.at ‹_› (by simp) | apply At.tail)) (by rfl)) ?_
      intro w' hp; exact ⟨rfl, hp.forget⟩


/-- How many there are at a time. -/
def lvF (m e t n now : Int) : Int := min m (n + (now / e - t / e))
def takeE (m e t n now : Int) : Int := if 1000000 < now then 1 else if now < t then 5 else if lvF m e t n now = 0 then 10 else 0
def takeT (t now : Int) : Int := if 1000000 < now then t else if now < t then t else now
def takeN (m e t n now : Int) : Int := if 1000000 < now then n else if now < t then n else if lvF m e t n now = 0 then 0 else lvF m e t n now - 1
/-- What a bucket's numbers keep to. -/
structure OkB (m e t n : Int) : Prop where
  m1 : 1 ≤ m
  m2 : m ≤ 1000
  e1 : 1 ≤ e
  e2 : e ≤ 1000
  t1 : 0 ≤ t
  t2 : t ≤ 1000000
  n1 : 0 ≤ n
  n2 : n ≤ m
theorem lvF_bd {m e t n now : Int} (h : OkB m e t n) (h1 : t ≤ now) : 0 ≤ lvF m e t n now ∧ lvF m e t n now ≤ m := by
  have := Int.ediv_le_ediv (c := e) (by have := h.e1; omega) h1
  have := h.n1; have := h.m1
  unfold lvF; omega
theorem OkB.take {m e t n : Int} (h : OkB m e t n) (now : Int) : OkB m e (takeT t now) (takeN m e t n now) := by
  have hb := fun h1 => lvF_bd (now := now) h h1
  obtain ⟨h1, h2, h3, h4, h5, h6, h7, h8⟩ := h
  unfold takeT takeN
  refine ⟨h1, h2, h3, h4, ?_, ?_, ?_, ?_⟩ <;> split <;> (try split) <;> (try split) <;> first | omega | (have := hb (by omega); omega)

theorem take_calls (b : Nat) (most every time many now : Int) (T : TypeId) (w : World) (hA : (Blk.cells (bkt most every time many) T).Is w.heap[b]?) (hk : OkB most every time many) :
    Calls Tryz.prog 38 [.pointer (some ⟨b, 0, none⟩), .int .i64 now].toArray w fun e w' => e = .returned (.int .i64 (takeE most every time many now)) ∧ HP w w' [b] [(b, .cells (bkt most every (takeT time now) (takeN most every time many now)) T)] := by
  have hlv := fun h => lvF_bd (now := now) hk h
  obtain ⟨m1, m2, e1, e2, t1, t2, n1, n2⟩ := hk
  refine calls_of_W Tryz.func38 rfl Tryz.ntmps38 rfl rfl (HP.start (O := [b]) (L := [(b, .cells (bkt most every time many) T)]) (by simpa using hA) (by simp) (by simp)) ?_
  refine W.seq ?_
  refine W.region ?_
  refine WL.as rfl rfl ?_
  refine WL.nil ?_
  refine WQ.then ?_
  refine W.seq ?_
  refine W.block ?_
  refine W.seq ?_
  refine W.region ?_
  refine WL.mv rfl rfl ?_
  refine WL.val rfl (V_gtr rfl rfl) ?_
  refine WL.as rfl rfl ?_
  refine WL.nil ?_
  refine WQ.then ?_
  refine W.cond_dec rfl (fun g1 => ?_) (fun g1 => ?_)
  ·
    refine W.seq ?_
    refine W.region ?_
    refine WL.as rfl rfl ?_
    refine WL.nil ?_
    refine WQ.then ?_
    refine W.ret ?_
    refine WQ.block_ret ?_
    refine WQ.then_ret ?_
    refine WQ.ret1 Tryz.results38 (.tmp rfl) ?_
    intro w' hp; rw [show takeE most every time many now = 1 from by unfold takeE; rw [if_pos (by omega)], show takeT time now = time from by unfold takeT; rw [if_pos (by omega)], show takeN most every time many now = many from by unfold takeN; rw [if_pos (by omega)]]; exact ⟨rfl, hp.sub (by repeat (first | exact List.Sublist.refl _ | exact List.nil_sublist _ | refine List.Sublist.cons_cons _ ?_ | refine List.Sublist.cons _ ?_))⟩
  ·
    refine W.seq ?_
    refine W.region ?_
    refine WL.mv rfl rfl ?_
    refine WL.mv rfl rfl ?_
    refine WL.pure _ rfl (by kernel_rfl) rfl (fun w hp => past_calls b most every time many _ w (At.hp (by repeat (first | exact At.head | exact AtW.at ‹_› (by simp) | apply At.tail)) hp)) ?_
    refine WL.as rfl rfl ?_
    refine WL.nil ?_
    refine WQ.then ?_
    refine W.cond_dec rfl (fun g2 => ?_) (fun g2 => ?_)
    ·
      refine W.seq ?_
      refine W.region ?_
      refine WL.as rfl rfl ?_
      refine WL.nil ?_
      refine WQ.then ?_
      refine W.ret ?_
      refine WQ.block_ret ?_
      refine WQ.then_ret ?_
      refine WQ.ret1 Tryz.results38 (.tmp rfl) ?_
      intro w' hp; rw [show takeE most every time many now = 5 from by unfold takeE; rw [if_neg (by omega), if_pos (by omega)], show takeT time now = time from by unfold takeT; rw [if_neg (by omega), if_pos (by omega)], show takeN most every time many now = many from by unfold takeN; rw [if_neg (by omega), if_pos (by omega)]]; exact ⟨rfl, hp.sub (by repeat (first | exact List.Sublist.refl _ | exact List.nil_sublist _ | refine List.Sublist.cons_cons _ ?_ | refine List.Sublist.cons _ ?_))⟩
    ·
      refine W.skip ?_
      refine WQ.block_normal ?_
      refine WQ.then ?_
      refine W.seq ?_
      refine W.region ?_
      refine WL.mv rfl rfl ?_
      refine WL.mv rfl rfl ?_
      refine WL.pure _ rfl (by kernel_rfl) rfl (fun w hp => at_calls b most every time many _ w (At.hp (by repeat (first | exact At.head | exact AtW.at ‹_› (by simp) | apply At.tail)) hp) (by omega) (by omega) (by omega) (by omega) (by omega) (by omega) (by omega)) ?_
      refine WL.new rfl (E_alloc (zs := [(1, [.int .i64 0]), (1, [.int .i64 0])]) ⟨by kernel_rfl, by repeat (first | exact Fit.nil | refine Fit.mk (by first | rfl | (simp; done) | (simp [iv_len]; done) | simp [iv_len, *]) ?_)⟩) ?_; intro b5
      refine WL.storeA 2 (by kernel_rfl) rfl rfl (by first | rfl | (simp [flat]; done) | (simp [flat, iv_len]; done) | simp [flat, iv_len, *]) (by repeat (first | exact Fit.nil | refine Fit.mk (by first | rfl | (simp; done) | (simp [iv_len]; done) | simp [iv_len, *]) ?_)) (by first | (simp [flat, one]; done) | simp [flat, iv, one]) (by repeat (first | exact Upd.here _ _ | apply Upd.there)) (by rfl) ?_
      refine WL.nil ?_
      refine WQ.then ?_
      refine W.seq ?_
      refine W.drawn (.q 0 (.q 1 (.q 2 (.q 3 (.q 4 (.l 5 (.done))))))) [(b5, _)] (by kernel_rfl) (fun _ a d _ _ h => by cases d <;> exact h) (by kernel_rfl) (by repeat (first | exact List.Sublist.refl _ | exact List.nil_sublist _ | refine List.Sublist.cons_cons _ ?_ | refine List.Sublist.cons _ ?_)) ?_
      refine WD.q rfl rfl (V_move rfl) ?_
      refine WD.q rfl rfl (V_nil rfl) ?_
      refine WD.q rfl rfl (V_fieldAddr 2 1 (by kernel_rfl) rfl) ?_
      refine WD.q rfl rfl (V_fieldAddr 0 1 (by kernel_rfl) rfl) ?_
      refine WD.q rfl rfl (V_load (by kernel_rfl) rfl (by repeat (first | exact At.head | exact AtW.at ‹_› (by simp) | apply At.tail)) (by rfl)) ?_
      refine WD.l ?_
      refine WO.cal rfl rfl (by repeat (first | exact List.Sublist.refl _ | exact List.nil_sublist _ | refine List.Sublist.cons_cons _ ?_ | refine List.Sublist.cons _ ?_)) (C_mod _ (by kernel_rfl) rfl (by repeat (first | exact Upd.here _ _ | apply Upd.there)) (fun w hp => astore_calls b 2 (bkt most every time many) _ T _ w (hp.held (b, .cells (bkt most every time many) T) (by simp [bkt])) rfl)) ?_; rintro _ _ ⟨rfl, rfl⟩; refine ⟨by simp, ?_⟩
      refine WD.done ?_
      refine WQ.then ?_
      refine W.seq ?_
      refine W.drawn (.q 0 (.q 1 (.q 2 (.q 3 (.q 4 (.l 5 (.done))))))) [(b5, _)] (by kernel_rfl) (fun _ a d _ _ h => by cases d <;> exact h) (by kernel_rfl) (by repeat (first | exact List.Sublist.refl _ | exact List.nil_sublist _ | refine List.Sublist.cons_cons _ ?_ | refine List.Sublist.cons _ ?_)) ?_
      refine WD.q rfl rfl (V_move rfl) ?_
      refine WD.q rfl rfl (V_nil rfl) ?_
      refine WD.q rfl rfl (V_fieldAddr 3 1 (by kernel_rfl) rfl) ?_
      refine WD.q rfl rfl (V_fieldAddr 1 1 (by kernel_rfl) rfl) ?_
      refine WD.q rfl rfl (V_load (by kernel_rfl) rfl (by repeat (first | exact At.head | exact AtW.at ‹_› (by simp) | apply At.tail)) (by rfl)) ?_
      refine WD.l ?_
      refine WO.cal rfl rfl (by repeat (first | exact List.Sublist.refl _ | exact List.nil_sublist _ | refine List.Sublist.cons_cons _ ?_ | refine List.Sublist.cons _ ?_)) (C_mod _ (by kernel_rfl) rfl (by repeat (first | exact Upd.here _ _ | apply Upd.there)) (fun w hp => astore_calls b 3 (bkt most every now many) _ T _ w (hp.held (b, .cells (bkt most every now many) T) (by simp [bkt])) rfl)) ?_; rintro _ _ ⟨rfl, rfl⟩; refine ⟨by simp, ?_⟩
      refine WD.done ?_
      refine WQ.then ?_
      refine W.seq ?_
      refine W.seq ?_
      refine W.region ?_
      refine WL.val rfl (V_fieldAddr 1 1 (by kernel_rfl) rfl) ?_
      refine WL.val rfl (V_load (by kernel_rfl) rfl (by repeat (first | exact At.head | exact AtW.at ‹_› (by simp) | apply At.tail)) (by rfl)) ?_
      refine WL.val rfl (V_eql rfl rfl) ?_
      refine WL.nil ?_
      refine WQ.then ?_
      refine W.cond_dec rfl (fun g3 => ?_) (fun g3 => ?_)
      ·
        refine W.seq ?_
        refine W.region ?_
        refine WL.as rfl rfl ?_
        refine WL.nil ?_
        refine WQ.then ?_
        refine W.ret ?_
        refine WQ.then_ret ?_
        refine WQ.ret1 Tryz.results38 (.tmp rfl) ?_
        intro w' hp; have g3 : lvF most every time many now = 0 := g3; have E0 := g3; rw [show takeE most every time many now = 10 from by unfold takeE; rw [if_neg (by omega), if_neg (by omega), if_pos g3], show takeT time now = now from by unfold takeT; rw [if_neg (by omega), if_neg (by omega)], show takeN most every time many now = 0 from by unfold takeN; rw [if_neg (by omega), if_neg (by omega), if_pos g3]]; rw [show (0 : Int) = lvF most every time many now from E0.symm]; exact ⟨rfl, hp.sub (by repeat (first | exact List.Sublist.refl _ | exact List.nil_sublist _ | refine List.Sublist.cons_cons _ ?_ | refine List.Sublist.cons _ ?_))⟩
      ·
        refine W.skip ?_
        refine WQ.then ?_
        refine W.seq ?_
        refine W.region ?_
        refine WL.mv rfl rfl ?_
        refine WL.val rfl (V_nil rfl) ?_
        refine WL.val rfl (V_fieldAddr 3 1 (by kernel_rfl) rfl) ?_
        refine WL.mod _ rfl (by kernel_rfl) rfl (by repeat (first | exact Upd.here _ _ | apply Upd.there)) (fun w hp => aadd_calls b 3 (bkt most every now (lvF most every time many now)) (bkt most every now (lvF most every time many now - 1)) T (lvF most every time many now) (-1) w (hp.held (b, .cells (bkt most every now (lvF most every time many now)) T) (by simp [bkt, lvF])) rfl (by rw [IntWalk.i64_in _ (by have := hlv (by omega); omega)]; rfl)) ?_
        refine WL.nil ?_
        refine WQ.then ?_
        refine W.seq ?_
        refine W.region ?_
        refine WL.as rfl rfl ?_
        refine WL.nil ?_
        refine WQ.then ?_
        refine W.ret ?_
        refine WQ.ret1 Tryz.results38 (.tmp rfl) ?_
        intro w' hp; have g3 : ¬ lvF most every time many now = 0 := g3; rw [show takeE most every time many now = 0 from by unfold takeE; rw [if_neg (by omega), if_neg (by omega), if_neg g3], show takeT time now = now from by unfold takeT; rw [if_neg (by omega), if_neg (by omega)], show takeN most every time many now = lvF most every time many now - 1 from by unfold takeN; rw [if_neg (by omega), if_neg (by omega), if_neg g3]]; exact ⟨rfl, hp.sub (by repeat (first | exact List.Sublist.refl _ | exact List.nil_sublist _ | refine List.Sublist.cons_cons _ ?_ | refine List.Sublist.cons _ ?_))⟩

end Go.Proofs.YtmeckbjinmgbbaaGreat