/- stamp: the document's answer, on. -/
import Derived.Test.YtmeckbjinmgbbaaGreatStamp3
set_option linter.unusedVariables false
set_option linter.unusedSimpArgs false

namespace Go.Proofs.YtmeckbjinmgbbaaGreat
open Go.X
theorem bytesL_len {s : StampS} (hc : s.commit.length = 32) (ht : s.tag.length = 32) : (bytesL s).length = 74 := by simp [bytesL, hc, ht]
theorem bytesL_bytes {s : StampS} (h : rightB s = true) (hcb : bytes s.commit) (htb : bytes s.tag) : bytes (bytesL s) := by
  have := right_bd h
  simp [bytesL, hcb, htb]; omega
theorem rstamp_calls (root : List Int) (ticks : Int) (e : EnvS) (now : Int) (hl : root.length = 32) (hrb : bytes root) (hti : 1 ≤ ticks) (hc : e.commit.length = 32) (hcb : bytes e.commit) (hpl : e.pub.length = 32) (w : World) :
    Calls Tryz.prog 77 [AG [(32, iv .u8 root)], .int .i64 ticks, AG (enV e), .int .i64 now].toArray w fun e' w' => e' = .returned (.tuple #[AG (stV (stampF root ticks e now)), .int .i64 (if mayB e now then 0 else 1)]) ∧ HP w w' [] [] := by
 unfold enV
 refine calls_of_W Tryz.func77 rfl Tryz.ntmps77 rfl rfl (HP.refl w []) ?_
 refine sr ?_
 refine obxa (fun b4 => ?_)
 refine obxa (fun b6 => ?_)
 refine oal [(1, [.int .i64 0]), (1, [.int .i64 0]), (1, [.int .i64 0]), (1, [.int .i64 0]), (32, List.replicate 32 (.int .u8 0)), (32, List.replicate 32 (.int .u8 0))] (fun b8 => ?_)
 refine oas ?_
 refine nq ?_
 refine W.seq ?_
 refine sr ?_
 refine omv ?_
 refine cp rfl (fun w hp => rtime_calls _ w) ?_
 refine ov vnot ?_
 refine omv ?_
 refine WL.split rfl (fun g1 => ?_) (fun g1 => ?_)
 · refine on rfl g1 ?_
   refine on rfl g1 ?_
   refine on rfl g1 ?_
   refine on rfl g1 ?_
   refine ov (V_pick_t rfl g1 rfl) ?_
   refine omv ?_
   refine on rfl rfl ?_
   refine on rfl rfl ?_
   refine on rfl rfl ?_
   refine on rfl rfl ?_
   refine ov (V_pick_t rfl rfl rfl) ?_
   refine nq ?_
   refine W.cond_true rfl rfl ?_
   refine sr ?_
   refine ov (V_build (by kernel_rfl) (zi (zs := [(1, [.int .i64 0]), (1, [.int .i64 0]), (1, [.int .i64 0]), (1, [.int .i64 0]), (32, List.replicate 32 (.int .u8 0)), (32, List.replicate 32 (.int .u8 0))])) (.nil _)) ?_
   refine osta 68 ?_
   refine oas ?_
   refine nq ?_
   refine W.ret ?_
   refine WQ.then_ret ?_
   refine WQ.ret2 Tryz.results77 (.cellA 68 (by kernel_rfl) rfl at_ (by rfl)) (.tmp rfl) ?_
   intro w' hp; have hmay : mayB e now = false := by simp_all [mayB]
   refine ⟨?_, hp.forget⟩; rw [show stampF root ticks e now = StampS.zero from by unfold stampF; rw [hmay]; rfl, hmay]; rfl
 · refine oy rfl g1 ?_
   refine ov (vfa0 0 1) ?_
   refine oy rfl g1 ?_
   refine ov vld ?_
   refine oy rfl g1 ?_
   refine cp rfl (fun w hp => raccount_calls _ w) ?_
   refine oy rfl g1 ?_
   refine ov vnot ?_
   refine ov (V_pick_f rfl g1 rfl) ?_
   refine omv ?_
   refine WL.split rfl (fun g2 => ?_) (fun g2 => ?_)
   · refine on rfl g2 ?_
     refine on rfl g2 ?_
     refine on rfl g2 ?_
     refine on rfl g2 ?_
     refine ov (V_pick_t rfl g2 rfl) ?_
     refine nq ?_
     refine W.cond_true rfl rfl ?_
     refine sr ?_
     refine ov (V_build (by kernel_rfl) (zi (zs := [(1, [.int .i64 0]), (1, [.int .i64 0]), (1, [.int .i64 0]), (1, [.int .i64 0]), (32, List.replicate 32 (.int .u8 0)), (32, List.replicate 32 (.int .u8 0))])) (.nil _)) ?_
     refine osta 68 ?_
     refine oas ?_
     refine nq ?_
     refine W.ret ?_
     refine WQ.then_ret ?_
     refine WQ.ret2 Tryz.results77 (.cellA 68 (by kernel_rfl) rfl at_ (by rfl)) (.tmp rfl) ?_
     intro w' hp; have hmay : mayB e now = false := by simp_all [mayB]
     refine ⟨?_, hp.forget⟩; rw [show stampF root ticks e now = StampS.zero from by unfold stampF; rw [hmay]; rfl, hmay]; rfl
   · refine oy rfl g2 ?_
     refine ov (vfa0 1 1) ?_
     refine oy rfl g2 ?_
     refine ov vld ?_
     refine oy rfl g2 ?_
     refine cp rfl (fun w hp => raccount_calls _ w) ?_
     refine oy rfl g2 ?_
     refine ov vnot ?_
     refine ov (V_pick_f rfl g2 rfl) ?_
     refine nq ?_
     refine W.cond rfl (fun g3 => ?_) (fun g3 => ?_)
     · refine W.seq ?_
       refine W.region ?_
       refine ov (V_build (by kernel_rfl) (zi (zs := [(1, [.int .i64 0]), (1, [.int .i64 0]), (1, [.int .i64 0]), (1, [.int .i64 0]), (32, List.replicate 32 (.int .u8 0)), (32, List.replicate 32 (.int .u8 0))])) (.nil _)) ?_
       refine osta 68 ?_
       refine oas ?_
       refine nq ?_
       refine W.ret ?_
       refine WQ.then_ret ?_
       refine WQ.ret2 Tryz.results77 (.cellA 68 (by kernel_rfl) rfl at_ (by rfl)) (.tmp rfl) ?_
       intro w' hp; have hmay : mayB e now = false := by simp_all [mayB]
       refine ⟨?_, hp.forget⟩; rw [show stampF root ticks e now = StampS.zero from by unfold stampF; rw [hmay]; rfl, hmay]; rfl
     · refine W.skip ?_
       refine WQ.then ?_
       refine W.seq ?_
       have htn := time_bd (n := now) (by simpa using g1)
       have hd := div_bd htn hti
       have hf : 0 ≤ e.fr ∧ e.fr < 8 := by simpa [acB] using g2
       have ht2 : 0 ≤ e.to ∧ e.to < 8 := by simpa [acB] using g3
       refine dr (.q 0 (.q 1 (.q 2 (.q 3 (.q 4 (.q 5 (.q 6 (.q 7 (.q 8 (.q 9 (.q 10 (.l 11 (.l 12 (.done)))))))))))))) [(b6, _)] ?_
       refine dq rfl (V_move rfl) ?_
       refine dq rfl (V_move rfl) ?_
       first | refine dq rfl vquo ?_ | refine dq rfl (V_quo rfl rfl (by omega)) ?_
       refine dq rfl (vfa0 0 1) ?_
       refine dq rfl vld ?_
       refine dq rfl (vfa0 1 1) ?_
       refine dq rfl vld ?_
       refine dq rfl (V_move rfl) ?_
       refine dq rfl (vfa0 2 32) ?_
       refine dq rfl (vlda 32) ?_
       refine dq rfl (V_build (by kernel_rfl) (zi (zs := [(1, [.int .i64 0]), (1, [.int .i64 0]), (1, [.int .i64 0]), (1, [.int .i64 0]), (32, List.replicate 32 (.int .u8 0)), (32, List.replicate 32 (.int .u8 0))])) (.one (k := 0) rfl rfl (by kernel_rfl) rfl (.one (k := 1) rfl rfl (by kernel_rfl) rfl (.one (k := 2) rfl rfl (by kernel_rfl) rfl (.one (k := 3) rfl rfl (by kernel_rfl) rfl (.agg (k := 4) (n := 32) rfl fit fln (by kernel_rfl) rfl (.nil _))))))) ?_
       refine WD.l ?_
       refine dal rfl [(1, [.int .i64 0]), (1, [.int .i64 0]), (1, [.int .i64 0]), (1, [.int .i64 0]), (32, List.replicate 32 (.int .u8 0)), (32, List.replicate 32 (.int .u8 0))] (fun b10 => ?_)
       refine WD.l ?_
       refine dsta rfl 68 ?_
       refine WD.done ?_
       refine WQ.then ?_
       refine sr ?_
       refine ov (vlda 32) ?_
       refine ov (vlda 68) ?_
       refine cp rfl (fun w hp => rtag16_calls root (stamp0 ticks e now) hl hrb hc hcb (by simp [stamp0]) hd htn hf ht2 w) ?_
       refine ov (vfa0 36 32) ?_
       refine osta 32 ?_
       refine nx ?_
       refine ov (vlda 68) ?_
       refine osta 68 ?_
       refine oas ?_
       refine nq ?_
       refine W.ret ?_
       refine WQ.ret2 Tryz.results77 (.cellA 68 (by kernel_rfl) rfl at_ (by rfl)) (.tmp rfl) ?_
       intro w' hp; have hmay : mayB e now = true := by simp_all [mayB]
       refine ⟨?_, hp.forget⟩; rw [show stampF root ticks e now = ⟨now / ticks, e.fr, e.to, now, e.commit, tagF root (stamp0 ticks e now)⟩ from by unfold stampF; rw [hmay]; rfl, hmay]; rfl

theorem rsbytes_calls (s : StampS) (hc : s.commit.length = 32) (hcb : bytes s.commit) (ht : s.tag.length = 32) (htb : bytes s.tag) (w : World) :
    Calls Tryz.prog 73 [AG (stV s)].toArray w fun e w' => ∃ o : Gr, GrOK o (bN s) ∧ e = .returned (.tuple #[.slice (gA o) (bN s) (gC o), .int .i64 (if rightB s then 0 else 1)]) ∧ HP w w' [] (gL o (bN s) (iv .u8 (bF s)) 5) := by
 unfold stV
 refine calls_of_W Tryz.func73 rfl Tryz.ntmps73 rfl rfl (HP.refl w []) ?_
 refine sr ?_
 refine obxa (fun b1 => ?_)
 refine oas ?_
 refine oas ?_
 refine nq ?_
 refine W.seq ?_
 refine sr ?_
 refine ov (vlda 68) ?_
 refine cp rfl (fun w hp => rright_calls s hc ht w) ?_
 refine ov vnot ?_
 refine nq ?_
 refine W.cond rfl (fun g1 => ?_) (fun g1 => ?_)
 · refine W.seq ?_
   refine W.region ?_
   refine oas ?_
   refine oas ?_
   refine nq ?_
   refine W.ret ?_
   refine WQ.then_ret ?_
   refine WQ.ret2 Tryz.results73 (.tmp rfl) (.tmp rfl) ?_
   intro w' hp; have hrr : rightB s = false := by simpa using g1
   rw [bN_f hrr, hrr]; exact ⟨none, rfl, rfl, hp.cov cov⟩
 · refine W.skip ?_
   refine WQ.then ?_
   refine W.seq ?_
   have hrr : rightB s = true := by simpa using g1
   have hb := right_bd hrr
   refine W.region ?_
   have hrr : rightB s = true := by simpa using g1
   have hb := right_bd hrr
   refine ov (vfa0 0 1) ?_
   refine ov vld ?_
   first | refine ov (vcvN .u64) ?_ | refine ov (vcv .u64) ?_
   refine cgG rfl (fun w hp => rhigh_calls _ 4 w sc sc) (fun o11 h11 => ?_)
   refine oas ?_
   refine nx ?_
   refine omv ?_
   refine ov (vfa0 1 1) ?_
   refine ov vld ?_
   first | refine ov (vcvN .u8) ?_ | refine ov (vcv .u8) ?_
   refine ov (vfa0 2 1) ?_
   refine ov vld ?_
   first | refine ov (vcvN .u8) ?_ | refine ov (vcv .u8) ?_
   refine obsI (k := .u8) 5 1 [_, _] (fun b19 => ?_)
   refine oapG 5 1 (fun o20 h20 p20 => ?_)
   refine oas ?_
   refine nx ?_
   refine omv ?_
   refine ov (vfa0 3 1) ?_
   refine ov vld ?_
   first | refine ov (vcvN .u64) ?_ | refine ov (vcv .u64) ?_
   refine cgG rfl (fun w hp => rhigh_calls _ 4 w sc sc) (fun o25 h25 => ?_)
   refine oapG 5 1 (fun o26 h26 p26 => ?_)
   refine oas ?_
   refine nx ?_
   refine omv ?_
   refine ov (vfa0 4 32) ?_
   refine ov (vslF 1 32) ?_
   refine oapG 5 1 (fun o30 h30 p30 => ?_)
   refine oas ?_
   refine nx ?_
   refine omv ?_
   refine ov (vfa0 36 32) ?_
   refine ov (vslF 1 32) ?_
   refine oapG 5 1 (fun o34 h34 p34 => ?_)
   refine oas ?_
   refine oas ?_
   refine nq ?_
   refine W.ret ?_
   refine WQ.ret2 Tryz.results73 (.tmp rfl) (.tmp rfl) ?_
   intro w' hp; rw [bN_t hrr, hrr, bF_t hrr]; exact ⟨o34, h34, rfl, hp.cov cov⟩

end Go.Proofs.YtmeckbjinmgbbaaGreat