/- Disks: the document's answer, its methods. -/
import Derived.Test.YtnpnnafcdnefiaaRef
set_option linter.unusedVariables false
set_option linter.unusedSimpArgs false

namespace Go.Proofs.Ytnpnnafcdnefiaa
open Go.X
theorem burnE_t {D : DS} (h : D.dead = true ∨ D.fuse = 0) : burnE D = 13 := if_pos h
theorem burnE_f {D : DS} (h : D.dead = false) (h2 : D.fuse ≠ 0) : burnE D = 0 := (burn_f h h2).1

theorem rburn21_calls (K : RK) (D : DS) (R : RS) (hok : DOK D) (hrl : Rl D R) (w : World) (hr : HP w w [K.d, K.s, K.x, K.i] [(K.d, .cells [(1, [.slice (some ⟨K.s, 0, none⟩) R.n R.n]), (1, [.slice (some ⟨K.x, 0, none⟩) R.n R.n]), (1, [.slice (some ⟨K.i, 0, none⟩) R.n R.n]), (1, [.int .i64 R.fuse]), (1, [.bool R.dead])] 130), (K.s, .cells [(R.n * 64, iv .u8 R.sure.flatten)] 72), (K.x, .cells [(R.n * 64, iv .u8 R.new.flatten)] 72), (K.i, .cells [(R.n, bv R.iss), (R.n - R.n, [])] 4)]) :
    Calls Try.prog 64 [.pointer (some ⟨K.d, 0, none⟩)].toArray w fun e w' => e = .returned (.bool (decide (burnE D = 0))) ∧ HP w w' [K.d, K.s, K.x, K.i] [(K.d, .cells [(1, [.slice (some ⟨K.s, 0, none⟩) (burnR R).n (burnR R).n]), (1, [.slice (some ⟨K.x, 0, none⟩) (burnR R).n (burnR R).n]), (1, [.slice (some ⟨K.i, 0, none⟩) (burnR R).n (burnR R).n]), (1, [.int .i64 (burnR R).fuse]), (1, [.bool (burnR R).dead])] 130), (K.s, .cells [((burnR R).n * 64, iv .u8 (burnR R).sure.flatten)] 72), (K.x, .cells [((burnR R).n * 64, iv .u8 (burnR R).new.flatten)] 72), (K.i, .cells [((burnR R).n, bv (burnR R).iss), ((burnR R).n - (burnR R).n, [])] 4)] := by
 have hn1 := hok.n1
 have hn64 := hok.n64
 have hfu := hok.fuse
 have hlen := hok.len
 obtain ⟨rn, rsu, rfu, rde, rnl, rns, ril, ris, rnw⟩ := id hrl
 refine calls_of_W Try.func64 rfl Try.ntmps64 rfl rfl hr ?_
 refine sr ?_
 refine oas ?_
 refine nq ?_
 refine W.seq ?_
 refine sr ?_
 refine omv ?_
 refine ov vnil ?_
 refine ov (vfa0 4 1) ?_
 refine ov vld ?_
 refine omv ?_
 refine WL.split rfl (fun g1 => ?_) (fun g1 => ?_)
 · refine on rfl g1 ?_
   refine on rfl g1 ?_
   refine on rfl g1 ?_
   refine on rfl g1 ?_
   refine on rfl g1 ?_
   refine ov (V_pick_t rfl g1 rfl) ?_
   refine nq ?_
   refine W.cond_true rfl rfl ?_
   refine sr ?_
   refine omv ?_
   refine ov vnil ?_
   refine ov (vfa0 4 1) ?_
   refine ost ?_
   refine nx ?_
   refine oas ?_
   refine nq ?_
   refine W.ret ?_
   refine WQ.then_ret ?_
   refine WQ.ret1 Try.results64 (.tmp rfl) ?_
   intro w' hp; have hD : D.dead = true := by rw [← rde]; exact g1
   rw [burnR_t (.inl g1), burnE_t (.inl hD)]; exact ⟨rfl, hp.cov cov⟩
 · refine oy rfl g1 ?_
   refine omv ?_
   refine oy rfl g1 ?_
   refine ov vnil ?_
   refine oy rfl g1 ?_
   refine ov (vfa0 3 1) ?_
   refine oy rfl g1 ?_
   refine ov vld ?_
   refine oy rfl g1 ?_
   refine ov (v2 V_eql) ?_
   refine ov (V_pick_f rfl g1 rfl) ?_
   refine nq ?_
   refine W.cond_dec rfl (fun g2 => ?_) (fun g2 => ?_)
   · refine W.seq ?_
     refine W.region ?_
     refine omv ?_
     refine ov vnil ?_
     refine ov (vfa0 4 1) ?_
     refine ost ?_
     refine nx ?_
     refine oas ?_
     refine nq ?_
     refine W.ret ?_
     refine WQ.then_ret ?_
     refine WQ.ret1 Try.results64 (.tmp rfl) ?_
     intro w' hp; have hD : D.fuse = 0 := by rw [← rfu]; exact g2
     rw [burnR_t (.inr g2), burnE_t (.inr hD)]; exact ⟨rfl, hp.cov cov⟩
   · refine W.skip ?_
     refine WQ.then ?_
     refine W.seq ?_
     refine sr ?_
     refine omv ?_
     refine ov vnil ?_
     refine ov (vfa0 3 1) ?_
     refine ov vld ?_
     refine ov (v2 V_gtr) ?_
     refine nq ?_
     refine W.cond_dec rfl (fun g3 => ?_) (fun g3 => ?_)
     · refine W.region ?_
       refine omv ?_
       refine ov vnil ?_
       refine ov (vfa0 3 1) ?_
       refine ov vld ?_
       first | refine ov vsubN ?_ | refine ov vsub ?_
       refine ov vnil ?_
       refine ov (vfa0 3 1) ?_
       refine ost ?_
       refine nx ?_
       refine oas ?_
       refine nq ?_
       refine W.ret ?_
       refine WQ.ret1 Try.results64 (.tmp rfl) ?_
       intro w' hp; have hD : D.dead = false := by rw [← rde]; exact g1
       rw [burnR_f g1 g2, burnE_f hD (by omega)]; dsimp only; rw [show max (R.fuse - 1) (-1) = R.fuse - 1 by omega]; exact ⟨rfl, hp.cov cov⟩
     · refine W.skip ?_
       refine WQ.then ?_
       refine sr ?_
       refine oas ?_
       refine nq ?_
       refine W.ret ?_
       refine WQ.ret1 Try.results64 (.tmp rfl) ?_
       intro w' hp; have hD : D.dead = false := by rw [← rde]; exact g1
       rw [burnR_f g1 g2, burnE_f hD (by omega)]; dsimp only; rw [show max (R.fuse - 1) (-1) = R.fuse by omega]; exact ⟨rfl, hp.cov cov⟩

theorem rfuse21_calls (K : RK) (D : DS) (R : RS) (hok : DOK D) (hrl : Rl D R) (k : Int) (hk : -9223372036854775808 ≤ k ∧ k ≤ 9223372036854775807) (w : World) (hr : HP w w [K.d, K.s, K.x, K.i] [(K.d, .cells [(1, [.slice (some ⟨K.s, 0, none⟩) R.n R.n]), (1, [.slice (some ⟨K.x, 0, none⟩) R.n R.n]), (1, [.slice (some ⟨K.i, 0, none⟩) R.n R.n]), (1, [.int .i64 R.fuse]), (1, [.bool R.dead])] 130), (K.s, .cells [(R.n * 64, iv .u8 R.sure.flatten)] 72), (K.x, .cells [(R.n * 64, iv .u8 R.new.flatten)] 72), (K.i, .cells [(R.n, bv R.iss), (R.n - R.n, [])] 4)]) :
    Calls Try.prog 39 [.pointer (some ⟨K.d, 0, none⟩), .int .i64 k].toArray w fun e w' => ∃ r : RS, Rl (fuD D k) r ∧ e = .returned (.tuple #[]) ∧ HP w w' [K.d, K.s, K.x, K.i] [(K.d, .cells [(1, [.slice (some ⟨K.s, 0, none⟩) r.n r.n]), (1, [.slice (some ⟨K.x, 0, none⟩) r.n r.n]), (1, [.slice (some ⟨K.i, 0, none⟩) r.n r.n]), (1, [.int .i64 r.fuse]), (1, [.bool r.dead])] 130), (K.s, .cells [(r.n * 64, iv .u8 r.sure.flatten)] 72), (K.x, .cells [(r.n * 64, iv .u8 r.new.flatten)] 72), (K.i, .cells [(r.n, bv r.iss), (r.n - r.n, [])] 4)] := by
 have hn1 := hok.n1
 have hn64 := hok.n64
 have hfu := hok.fuse
 have hlen := hok.len
 obtain ⟨rn, rsu, rfu, rde, rnl, rns, ril, ris, rnw⟩ := id hrl
 refine calls_of_W Try.func39 rfl Try.ntmps39 rfl rfl hr ?_
 refine W.region ?_
 refine omv ?_
 refine omv ?_
 refine ov (V_max rfl) ?_
 refine ov vnil ?_
 refine ov (vfa0 3 1) ?_
 refine ost ?_
 refine WL.nil ?_
 refine WQ.ret0 (.inr rfl) Try.results39 ?_
 intro w' hp; exact ⟨_, fuR_rl hrl, rfl, hp.cov cov⟩

theorem rwrite21_calls (K : RK) (D : DS) (R : RS) (hok : DOK D) (hrl : Rl D R) (i : Int) (s : List Int) (hs : Sec s) (w : World) (hr : HP w w [K.d, K.s, K.x, K.i] [(K.d, .cells [(1, [.slice (some ⟨K.s, 0, none⟩) R.n R.n]), (1, [.slice (some ⟨K.x, 0, none⟩) R.n R.n]), (1, [.slice (some ⟨K.i, 0, none⟩) R.n R.n]), (1, [.int .i64 R.fuse]), (1, [.bool R.dead])] 130), (K.s, .cells [(R.n * 64, iv .u8 R.sure.flatten)] 72), (K.x, .cells [(R.n * 64, iv .u8 R.new.flatten)] 72), (K.i, .cells [(R.n, bv R.iss), (R.n - R.n, [])] 4)]) :
    Calls Try.prog 36 [.pointer (some ⟨K.d, 0, none⟩), .int .i64 i, AG [(64, iv .u8 s)]].toArray w fun e w' => ∃ r : RS, Rl (wrD D i s) r ∧ e = .returned (.int .i64 (wrE D i)) ∧ HP w w' [K.d, K.s, K.x, K.i] [(K.d, .cells [(1, [.slice (some ⟨K.s, 0, none⟩) r.n r.n]), (1, [.slice (some ⟨K.x, 0, none⟩) r.n r.n]), (1, [.slice (some ⟨K.i, 0, none⟩) r.n r.n]), (1, [.int .i64 r.fuse]), (1, [.bool r.dead])] 130), (K.s, .cells [(r.n * 64, iv .u8 r.sure.flatten)] 72), (K.x, .cells [(r.n * 64, iv .u8 r.new.flatten)] 72), (K.i, .cells [(r.n, bv r.iss), (r.n - r.n, [])] 4)] := by
 have hn1 := hok.n1
 have hn64 := hok.n64
 have hfu := hok.fuse
 have hlen := hok.len
 obtain ⟨rn, rsu, rfu, rde, rnl, rns, ril, ris, rnw⟩ := id hrl
 obtain ⟨hsl, hsb⟩ := hs
 refine calls_of_W Try.func36 rfl Try.ntmps36 rfl rfl hr ?_
 refine sr ?_
 refine obxa (fun b5 => ?_)
 refine oas ?_
 refine nq ?_
 refine W.seq ?_
 refine sr ?_
 refine omv ?_
 refine ov (v2 V_lss) ?_
 refine omv ?_
 refine WL.splitD rfl (fun g1 => ?_) (fun g1 => ?_)
 · refine on rfl (decide_eq_true g1) ?_
   refine on rfl (decide_eq_true g1) ?_
   refine on rfl (decide_eq_true g1) ?_
   refine on rfl (decide_eq_true g1) ?_
   refine on rfl (decide_eq_true g1) ?_
   refine on rfl (decide_eq_true g1) ?_
   refine on rfl (decide_eq_true g1) ?_
   refine ov (V_pick_td rfl g1 rfl) ?_
   refine nq ?_
   refine W.cond_true rfl rfl ?_
   refine sr ?_
   refine oas ?_
   refine nq ?_
   refine W.ret ?_
   refine WQ.then_ret ?_
   refine WQ.ret1 Try.results36 (.tmp rfl) ?_
   intro w' hp; obtain ⟨e1, e2⟩ := wr_no (D := D) (i := i) (s := s) (by simp [inR]; omega)
   rw [e1, e2]; exact ⟨R, hrl, rfl, hp.cov cov⟩
 · refine oy rfl (decide_eq_false g1) ?_
   refine omv ?_
   refine oy rfl (decide_eq_false g1) ?_
   refine omv ?_
   refine oy rfl (decide_eq_false g1) ?_
   refine ov vnil ?_
   refine oy rfl (decide_eq_false g1) ?_
   refine ov (vfa0 0 1) ?_
   refine oy rfl (decide_eq_false g1) ?_
   refine ov vld ?_
   refine oy rfl (decide_eq_false g1) ?_
   refine ov vlenS ?_
   refine oy rfl (decide_eq_false g1) ?_
   refine ov (v2 V_geq) ?_
   refine ov (V_pick_fd rfl g1 rfl) ?_
   refine nq ?_
   refine W.cond_dec rfl (fun g2 => ?_) (fun g2 => ?_)
   · refine W.seq ?_
     refine W.region ?_
     refine oas ?_
     refine nq ?_
     refine W.ret ?_
     refine WQ.then_ret ?_
     refine WQ.ret1 Try.results36 (.tmp rfl) ?_
     intro w' hp; obtain ⟨e1, e2⟩ := wr_no (D := D) (i := i) (s := s) (by simp [inR]; omega)
     rw [e1, e2]; exact ⟨R, hrl, rfl, hp.cov cov⟩
   · refine W.skip ?_
     refine WQ.then ?_
     refine W.seq ?_
     refine W.seq ?_
     have hir : inR D i = true := by simp only [inR, Bool.and_eq_true, decide_eq_true_eq]; omega
     obtain ⟨j, rfl⟩ : ∃ j : Nat, i = j := ⟨i.toNat, by omega⟩
     refine W.region ?_
     refine omv ?_
     refine cms rfl (fun w hp => rburn21_calls K D R hok hrl w (HP.here hp cov)) ?_
     refine ov vnot ?_
     refine nq ?_
     refine W.cond rfl (fun g3 => ?_) (fun g3 => ?_)
     · refine W.seq ?_
       refine W.region ?_
       refine oas ?_
       refine nq ?_
       refine W.ret ?_
       refine WQ.then_ret ?_
       refine WQ.ret1 Try.results36 (.tmp rfl) ?_
       intro w' hp; have hb1 : burnE D ≠ 0 := by simpa using g3
       obtain ⟨e1, e2⟩ := wr_dead (i := (j : Int)) (s := s) hir hb1
       have hb2 : burnE D = 13 := by unfold burnE at hb1 ⊢; split at hb1 <;> simp_all
       rw [e1, e2, hb2]; exact ⟨_, burnR_rl hrl, rfl, hp.cov cov⟩
     · refine W.skip ?_
       refine WQ.then ?_
       refine W.seq ?_
       have hb0 : burnE D = 0 := by simpa using g3
       obtain ⟨e1, e2⟩ := wr_ok (i := (j : Int)) (s := s) hir hb0
       rw [e1, e2]
       have hr2 := burnR_rl hrl
       generalize burnR R = E at hr2 ⊢
       have hen := hr2.n
       rw [burnD_n] at hen
       have henl := hr2.nlen
       rw [burnD_n] at henl
       have heil := hr2.ilen
       rw [burnD_n] at heil
       have hel : ∀ l ∈ E.new, l.length = 64 := fun l hl => (hr2.news l hl).1
       refine dr (.q 0 (.q 1 (.q 2 (.q 3 (.q 4 (.q 5 (.q 6 (.l 7 (.done))))))))) [(K.d, _), (b5, _)] ?_
       refine dq rfl (V_move rfl) ?_
       refine dq rfl vnil ?_
       refine dq rfl (vfa0 1 1) ?_
       refine dq rfl vld ?_
       refine dq rfl (V_move rfl) ?_
       refine dq rfl (vlda 64) ?_
       refine dq rfl (viSec 64) ?_
       refine WD.l ?_
       refine dstSec 64 hel rfl ?_
       refine WD.done ?_
       refine WQ.then ?_
       refine sr ?_
       refine omv ?_
       refine ov vnil ?_
       refine ov (vfa0 2 1) ?_
       refine ov vld ?_
       refine omv ?_
       refine ov (viB) ?_
       refine ostBo (l := E.iss) ?_
       refine nx ?_
       refine oas ?_
       refine nq ?_
       refine W.ret ?_
       refine WQ.ret1 Try.results36 (.tmp rfl) ?_
       intro w' hp; exact ⟨_, putR_rl hr2 (by rw [burnD_n]; omega) ⟨hsl, hsb⟩, rfl, hp.cov cov⟩

theorem rread21_calls (K : RK) (D : DS) (R : RS) (hok : DOK D) (hrl : Rl D R) (i : Int) (w : World) (hr : HP w w [K.d, K.s, K.x, K.i] [(K.d, .cells [(1, [.slice (some ⟨K.s, 0, none⟩) R.n R.n]), (1, [.slice (some ⟨K.x, 0, none⟩) R.n R.n]), (1, [.slice (some ⟨K.i, 0, none⟩) R.n R.n]), (1, [.int .i64 R.fuse]), (1, [.bool R.dead])] 130), (K.s, .cells [(R.n * 64, iv .u8 R.sure.flatten)] 72), (K.x, .cells [(R.n * 64, iv .u8 R.new.flatten)] 72), (K.i, .cells [(R.n, bv R.iss), (R.n - R.n, [])] 4)]) :
    Calls Try.prog 41 [.pointer (some ⟨K.d, 0, none⟩), .int .i64 i].toArray w fun e w' => e = .returned (.tuple #[AG [(64, iv .u8 (rdS D i))], .int .i64 (rdE D i)]) ∧ HP w w' [K.d, K.s, K.x, K.i] [(K.d, .cells [(1, [.slice (some ⟨K.s, 0, none⟩) R.n R.n]), (1, [.slice (some ⟨K.x, 0, none⟩) R.n R.n]), (1, [.slice (some ⟨K.i, 0, none⟩) R.n R.n]), (1, [.int .i64 R.fuse]), (1, [.bool R.dead])] 130), (K.s, .cells [(R.n * 64, iv .u8 R.sure.flatten)] 72), (K.x, .cells [(R.n * 64, iv .u8 R.new.flatten)] 72), (K.i, .cells [(R.n, bv R.iss), (R.n - R.n, [])] 4)] := by
 have hn1 := hok.n1
 have hn64 := hok.n64
 have hfu := hok.fuse
 have hlen := hok.len
 obtain ⟨rn, rsu, rfu, rde, rnl, rns, ril, ris, rnw⟩ := id hrl
 refine calls_of_W Try.func41 rfl Try.ntmps41 rfl rfl hr ?_
 refine sr ?_
 refine oal [(64, List.replicate 64 (.int .u8 0))] (fun b4 => ?_)
 refine oas ?_
 refine nq ?_
 refine W.seq ?_
 refine sr ?_
 refine omv ?_
 refine ov (v2 V_lss) ?_
 refine omv ?_
 refine WL.splitD rfl (fun g1 => ?_) (fun g1 => ?_)
 · refine on rfl (decide_eq_true g1) ?_
   refine on rfl (decide_eq_true g1) ?_
   refine on rfl (decide_eq_true g1) ?_
   refine on rfl (decide_eq_true g1) ?_
   refine on rfl (decide_eq_true g1) ?_
   refine on rfl (decide_eq_true g1) ?_
   refine on rfl (decide_eq_true g1) ?_
   refine ov (V_pick_td rfl g1 rfl) ?_
   refine nq ?_
   refine W.cond_true rfl rfl ?_
   refine sr ?_
   refine ov (vbI 64 .u8 0 []) ?_
   refine osta 64 ?_
   refine oas ?_
   refine nq ?_
   refine W.ret ?_
   refine WQ.then_ret ?_
   refine WQ.ret2 Try.results41 (.cellA 64 (by kernel_rfl) rfl at_ (by rfl)) (.tmp rfl) ?_
   intro w' hp; obtain ⟨e1, e2⟩ := rd_no (D := D) (i := i) (by simp [inR]; omega)
   rw [e1, e2]; exact ⟨rfl, hp.cov cov⟩
 · refine oy rfl (decide_eq_false g1) ?_
   refine omv ?_
   refine oy rfl (decide_eq_false g1) ?_
   refine omv ?_
   refine oy rfl (decide_eq_false g1) ?_
   refine ov vnil ?_
   refine oy rfl (decide_eq_false g1) ?_
   refine ov (vfa0 0 1) ?_
   refine oy rfl (decide_eq_false g1) ?_
   refine ov vld ?_
   refine oy rfl (decide_eq_false g1) ?_
   refine ov vlenS ?_
   refine oy rfl (decide_eq_false g1) ?_
   refine ov (v2 V_geq) ?_
   refine ov (V_pick_fd rfl g1 rfl) ?_
   refine nq ?_
   refine W.cond_dec rfl (fun g2 => ?_) (fun g2 => ?_)
   · refine W.seq ?_
     refine W.region ?_
     refine ov (vbI 64 .u8 0 []) ?_
     refine osta 64 ?_
     refine oas ?_
     refine nq ?_
     refine W.ret ?_
     refine WQ.then_ret ?_
     refine WQ.ret2 Try.results41 (.cellA 64 (by kernel_rfl) rfl at_ (by rfl)) (.tmp rfl) ?_
     intro w' hp; obtain ⟨e1, e2⟩ := rd_no (D := D) (i := i) (by simp [inR]; omega)
     rw [e1, e2]; exact ⟨rfl, hp.cov cov⟩
   · refine W.skip ?_
     refine WQ.then ?_
     refine W.seq ?_
     refine W.seq ?_
     have hir : inR D i = true := by simp only [inR, Bool.and_eq_true, decide_eq_true_eq]; omega
     obtain ⟨j, rfl⟩ : ∃ j : Nat, i = j := ⟨i.toNat, by omega⟩
     have hj : j < D.n := by omega
     have hcu := hrl.cur hj
     have hcs := (hok.cur hj).1
     have hel : ∀ l ∈ R.new, l.length = 64 := fun l hl => (rns l hl).1
     have hsl : ∀ l ∈ R.sure, l.length = 64 := by rw [rsu]; exact hok.l64
     have hs2 : R.sure.length = D.n := by rw [rsu]; exact hok.len
     have eS : rdS D (j : Int) = cur D j := by unfold rdS; rw [if_pos hir]; rfl
     have eE : rdE D (j : Int) = 0 := if_pos hir
     rw [eS, eE]
     refine W.region ?_
     refine omv ?_
     refine ov vnil ?_
     refine ov (vfa0 2 1) ?_
     refine ov vld ?_
     refine omv ?_
     refine ov (viB) ?_
     refine ov (vldBo) ?_
     refine nq ?_
     refine W.cond rfl (fun g3 => ?_) (fun g3 => ?_)
     · refine W.seq ?_
       have hcc : R.new.getD j [] = cur D j := by rw [← hcu, if_pos (by assumption)]
       refine W.region ?_
       refine omv ?_
       refine ov vnil ?_
       refine ov (vfa0 1 1) ?_
       refine ov vld ?_
       refine omv ?_
       refine ov (viSec 64) ?_
       have hgl : (R.new[j]?.getD []).length = 64 := by rw [← List.getD_eq_getElem?_getD, hcc]; exact hcs
       refine ov (vldSec 64 hel) ?_
       refine osta 64 ?_
       refine oas ?_
       refine nq ?_
       refine W.ret ?_
       refine WQ.then_ret ?_
       refine WQ.ret2 Try.results41 (.cellA 64 (by kernel_rfl) rfl at_ (by rfl)) (.tmp rfl) ?_
       intro w' hp; rw [← hcc]; exact ⟨rfl, hp.cov cov⟩
     · refine W.skip ?_
       refine WQ.then ?_
       refine W.seq ?_
       have hcc : R.sure.getD j [] = cur D j := by rw [← hcu, if_neg (by simp_all)]
       refine W.region ?_
       refine omv ?_
       refine ov vnil ?_
       refine ov (vfa0 0 1) ?_
       refine ov vld ?_
       refine omv ?_
       refine ov (viSec 64) ?_
       have hgl : (R.sure[j]?.getD []).length = 64 := by rw [← List.getD_eq_getElem?_getD, hcc]; exact hcs
       refine ov (vldSec 64 hsl) ?_
       refine osta 64 ?_
       refine oas ?_
       refine nq ?_
       refine W.ret ?_
       refine WQ.ret2 Try.results41 (.cellA 64 (by kernel_rfl) rfl at_ (by rfl)) (.tmp rfl) ?_
       intro w' hp; rw [← hcc]; exact ⟨rfl, hp.cov cov⟩

end Go.Proofs.Ytnpnnafcdnefiaa