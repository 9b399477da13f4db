/- The journal: a disk's sectors, one by one. -/
import Derived.Test.YtnpnnafcdnefiaaJour3
set_option linter.unusedVariables false
set_option linter.unusedSimpArgs false

namespace Go.Proofs.Ytnpnnafcdnefiaa
open Go.X

theorem sectors22_calls (d : Nat) (w : World) :
    Calls Try.prog 53 [.pointer (some ⟨d, 0, none⟩)].toArray w fun e w' => ∃ r : Nat, True ∧ e = .returned (.func (.func 71) #[] #[.pointer (some ⟨r, 0, none⟩)]) ∧ HP w w' [] [(r, .cells [(1, [.pointer (some ⟨d, 0, none⟩)])] 23)] := by
 refine calls_of_W Try.func53 rfl Try.ntmps53 rfl rfl (HP.refl w []) ?_
 refine sr ?_
 refine obx (fun b1 => ?_)
 refine oas ?_
 refine nx ?_
 refine ov V_makeFunc ?_
 refine oas ?_
 refine nq ?_
 refine W.ret ?_
 refine WQ.ret1 Try.results53 (.tmp rfl) ?_
 intro w' hp; exact ⟨b1, trivial, rfl, hp.cov cov⟩

theorem secs22_calls (w0 : World) (O : List Nat) (K : DK) (D : DS) (hok : DOK D) (b : Nat) (l D0 : Nat) (fn : FuncId) (tm : Array Value) (ps : Array Tmp) (ac bo : Code) (hps : ps.size = 2) (G : Nat → List (Nat × Blk) → Prop)
    (hround : ∀ (i : Nat) Lx, i < D.n → G i Lx → Rd ⟨Try.prog, 0, w0, O⟩ l ⟨.ready, none, fn, tm, ps, ac, bo, D0⟩ [.int .i64 i, AG [(64, iv .u8 (rdS D i))]] ((l, lrec .ready none fn tm ps ac bo D0) :: (D0, dref (some [])) :: (b, .cells [(1, [.pointer (some ⟨K.d, 0, none⟩)])] 23) :: (K.d, .cells [(1, [.slice (some ⟨K.s, 0, none⟩) D.n D.n]), (1, [.map (some K.m)]), (1, [.int .i64 D.fuse]), (1, [.bool D.dead])] 101) :: (K.s, .cells [(D.n * 64, iv .u8 D.sure.flatten)] 58) :: (K.m, .obj (mapO .i64 (D.m.map sE) D.ck)) :: Lx) fun t L' => t = true ∧ ∃ Lx', L' = ((l, lrec .ready none fn tm ps ac bo D0) :: (D0, dref (some [])) :: (b, .cells [(1, [.pointer (some ⟨K.d, 0, none⟩)])] 23) :: (K.d, .cells [(1, [.slice (some ⟨K.s, 0, none⟩) D.n D.n]), (1, [.map (some K.m)]), (1, [.int .i64 D.fuse]), (1, [.bool D.dead])] 101) :: (K.s, .cells [(D.n * 64, iv .u8 D.sure.flatten)] 58) :: (K.m, .obj (mapO .i64 (D.m.map sE) D.ck)) :: Lx') ∧ G (i + 1) Lx')
    (Lx0 : List (Nat × Blk)) (h0 : G 0 Lx0) (w : World) (hp0 : HP w0 w O ((l, lrec .ready none fn tm ps ac bo D0) :: (D0, dref (some [])) :: (b, .cells [(1, [.pointer (some ⟨K.d, 0, none⟩)])] 23) :: (K.d, .cells [(1, [.slice (some ⟨K.s, 0, none⟩) D.n D.n]), (1, [.map (some K.m)]), (1, [.int .i64 D.fuse]), (1, [.bool D.dead])] 101) :: (K.s, .cells [(D.n * 64, iv .u8 D.sure.flatten)] 58) :: (K.m, .obj (mapO .i64 (D.m.map sE) D.ck)) :: Lx0)) :
    Calls Try.prog 71 [.func (.yield l) #[] #[], .pointer (some ⟨b, 0, none⟩)].toArray w (Itd ⟨Try.prog, 0, w0, O⟩ l D0 fn tm ps ac bo fun pe L' => pe = none ∧ ∃ Lx', L' = ((b, .cells [(1, [.pointer (some ⟨K.d, 0, none⟩)])] 23) :: (K.d, .cells [(1, [.slice (some ⟨K.s, 0, none⟩) D.n D.n]), (1, [.map (some K.m)]), (1, [.int .i64 D.fuse]), (1, [.bool D.dead])] 101) :: (K.s, .cells [(D.n * 64, iv .u8 D.sure.flatten)] 58) :: (K.m, .obj (mapO .i64 (D.m.map sE) D.ck)) :: Lx') ∧ G D.n Lx') := by
 have hn1 := hok.n1
 have hn64 := hok.n64
 refine calls_of_W0 Try.func71 rfl Try.ntmps71 rfl rfl hp0 ?_
 refine sr ?_
 refine oas ?_
 refine nq ?_
 refine W.block ?_
 -- LOOP 0
 refine W.pick (S' := [(3, _), (0, _), (1, _)]) [3, 0, 1] rfl ?_
 refine W.loopG (σ := Nat × List (Nat × Blk)) (fun ⟨i, Lx⟩ => i ≤ D.n ∧ G i Lx) (fun ⟨i, Lx⟩ => [(3, .int .i64 (i : Nat))]) (fun ⟨i, Lx⟩ => []) [(l, _), (D0, _), (b, _), (K.d, _), (K.s, _), (K.m, _)] (fun ⟨i, Lx⟩ => Lx) (fun ⟨i, Lx⟩ => D.n - i) (0, Lx0) rfl cov ⟨Nat.zero_le _, h0⟩ ?_
 rintro ⟨i, Lx⟩ ⟨hi, hG⟩; dsimp only at hi hG ⊢; have hsl := (rdS_sec hok (i := i)).1
 refine W.seq ?_
 refine W.block ?_
 refine sr ?_
 refine ov vld ?_
 refine omv ?_
 refine cms rfl (fun w hp => read21_calls K D hok i w (HP.here hp cov)) ?_
 refine omv ?_
 refine ov vex ?_
 refine ov vex ?_
 refine oal [(64, List.replicate 64 (.int .u8 0))] (fun b4 => ?_)
 refine osta 64 ?_
 refine oas ?_
 refine nq ?_
 refine W.seq ?_
 by_cases hin : i < D.n
 · have hre : rdE D i = 0 := by unfold rdE inR; rw [if_pos (by simp; omega)]
   refine W.splitAt 6 ?_
   dsimp only [List.take_succ_cons, List.take_zero]
   refine omv ?_
   refine ov (v2 V_neq) ?_
   refine omv ?_
   refine oy rfl (decide_eq_false (by simp [hre])) ?_
   refine omv ?_
   refine oy rfl (decide_eq_false (by simp [hre])) ?_
   refine omv ?_
   refine oy rfl (decide_eq_false (by simp [hre])) ?_
   refine ov (vlda 64) ?_
   refine WL.toK ?_
   refine wyG (j := 2) (b' := decide (rdE D (i : Int) ≠ 0)) (Rd.cov (hround i Lx hin hG)) ?_ (by exact rfl) (decide_eq_false (by simp [hre])) hps.symm
   rintro _ _ ⟨rfl, Lx', rfl, hG'⟩
   refine WK.restAt 6 ?_
   dsimp only [Nat.reduceAdd, List.drop_succ_cons, List.drop_zero]
   refine oy rfl (decide_eq_false (by simp [hre])) ?_
   refine ov vnot ?_
   refine ov (V_pick_f rfl (decide_eq_false (by simp [hre])) rfl) ?_
   refine WL.endK ?_
   refine WQ.then ?_
   refine W.cond_false rfl rfl ?_
   refine W.skip ?_
   refine WQ.block_normal ?_
   refine WQ.then ?_
   refine W.region ?_
   refine omv ?_
   first | refine ov vaddN ?_ | refine ov vadd ?_
   refine oas ?_
   refine WL.nil ?_
   exact ag (i + 1, Lx') [3, 0, 1] (by (try dsimp only); exact ⟨by omega, hG'⟩) (by (try dsimp only); omega) rfl cov
 · have hre : rdE D i = 1 := by unfold rdE inR; rw [if_neg (by simp; omega)]
   refine W.region ?_
   refine omv ?_
   refine ov (v2 V_neq) ?_
   refine omv ?_
   refine on rfl (decide_eq_true (by simp [hre])) ?_
   refine on rfl (decide_eq_true (by simp [hre])) ?_
   refine on rfl (decide_eq_true (by simp [hre])) ?_
   refine on rfl (decide_eq_true (by simp [hre])) ?_
   refine on rfl (decide_eq_true (by simp [hre])) ?_
   refine ov (V_pick_t rfl (decide_eq_true (by simp [hre])) rfl) ?_
   refine nq ?_
   refine W.cond_true rfl rfl ?_
   refine W.ret ?_
   refine WQ.block_ret ?_
   refine WQ.then_ret ?_
   refine WQ.then_ret ?_
   refine WQ.block_ret ?_
   refine WQ.ret0 (.inl rfl) Try.results71 ?_
   intro w' hp; obtain rfl : i = D.n := by omega
   exact ⟨_, .ready, none, _, rfl, by simp, hp.cov cov, rfl, Lx, rfl, hG⟩

end Go.Proofs.Ytnpnnafcdnefiaa