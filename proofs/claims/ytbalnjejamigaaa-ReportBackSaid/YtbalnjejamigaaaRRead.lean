/- palfreyref17.Read. -/
import Derived.Test.YtbalnjejamigaaaRead3
set_option linter.unusedVariables false
set_option linter.unusedSimpArgs false

namespace Go.Proofs.Ytbalnjejamigaaa
open Go.X
theorem okRows_f {l l0 l1 l2 l3 l4 : List Int} (hpr : partR l = [l0, l1, l2, l3, l4]) (h : ¬ (l0.length = 4 ∧ l1.length = 1 ∧ l3.length = 32 ∧ readE l4 = 0 ∧ rB (repR none 0 l0 l1 l2 l3 l4) = true)) : okRows (partR l) = false := by
  cases hq : okRows (partR l) with
  | false => rfl
  | true =>
    rw [hpr] at hq
    simp only [okRows, List.getD_cons_zero, List.getD_cons_succ, Bool.and_eq_true, decide_eq_true_eq] at hq
    exact absurd ⟨hq.1.1.1.1.2, hq.1.1.1.2, hq.1.1.2, hq.1.2, hq.2⟩ h
theorem okRows_mk {l l0 l1 l2 l3 l4 : List Int} (hpr : partR l = [l0, l1, l2, l3, l4]) (h : l0.length = 4 ∧ l1.length = 1 ∧ l3.length = 32 ∧ readE l4 = 0 ∧ rB (repR none 0 l0 l1 l2 l3 l4) = true) : okRows (partR l) = true := by
  rw [hpr]; simp [okRows, h]
theorem okRows_len {l : List Int} (h : (partR l).length ≠ 5) : okRows (partR l) = false := by simp [okRows, h]

theorem rrepread_calls (A : Option Addr) (n cap : Nat) (l : List Int) (w : World) (hs : SrW w 1 A n (iv .u8 l)) (hb : bytes l) (hn : n ≤ cap) (hn2 : n ≤ 1000000) :
    Calls Try.prog 48 [.slice A n cap].toArray w fun e w' => ∃ o : Gr, GrOK o (repTx l).length ∧ e = .returned (.tuple #[AG (repRd o l).V, .int .i64 (repE l)]) ∧ HP w w' [] (gL o (repTx l).length (iv .u8 (repTx l)) 5) := by
 have hl := SrW.ilen hs
 refine calls_of_W Try.func48 rfl Try.ntmps48 rfl rfl (HP.refl w []) ?_
 refine sr ?_
 refine oal [(1, [.int .i64 0]), (1, [.int .i64 0]), (1, [.slice none 0 0]), (32, List.replicate 32 (.int .u8 0)), (1, [.int .i64 0]), (1, [.int .i64 0]), (1, [.int .i64 0]), (1, [.int .i64 0]), (32, List.replicate 32 (.int .u8 0)), (32, List.replicate 32 (.int .u8 0))] (fun b2 => ?_)
 refine oas ?_
 refine nx ?_
 refine omv ?_
 refine cgR rfl (fun w hp => rpart_calls _ _ _ l w sw hb sc (by omega)) (fun o11 h11 => ?_)
 refine omv ?_
 refine ov vex ?_
 refine ov vex ?_
 refine oas ?_
 refine oas ?_
 refine nq ?_
 refine W.seq ?_
 refine W.seq ?_
 by_cases hE : partE l = 0
 · refine W.region ?_
   refine omv ?_
   refine ov (v2 V_neq) ?_
   refine nq ?_
   refine W.cond_false rfl (decide_eq_false (by simpa using hE)) ?_
   refine W.skip ?_
   refine WQ.then ?_
   refine W.seq ?_
   refine W.seq ?_
   by_cases h5 : (partR l).length = 5
   · obtain ⟨hok, hll⟩ := h11
     have hrl : o11.rs.length = (partR l).length := by rw [← hll]; simp [GR.ll]
     obtain ⟨og, rs⟩ := o11
     obtain ⟨r0, r1, r2, r3, r4, rfl⟩ := list5 (l := rs) (by simpa using hrl.trans h5)
     obtain ⟨⟨gb, gc, gr⟩, rfl⟩ : ∃ q, og = some q := by
       cases og with
       | none => exact absurd hok.1 (by simp [GrOK])
       | some q => exact ⟨q, rfl⟩
     have hpr : partR l = [r0.l, r1.l, r2.l, r3.l, r4.l] := hll.symm
     have k0 := hok.2 r0 (by simp)
     have k1 := hok.2 r1 (by simp)
     have k2 := hok.2 r2 (by simp)
     have k3 := hok.2 r3 (by simp)
     have k4 := hok.2 r4 (by simp)
     have hbr0 : bytes r0.l := k0.2.2
     have hbr3 : bytes r3.l := k3.2.2
     have hsz := rows_le (partE_eq hE)
     have m4 : r4.n ≤ 1000000 := by have := hsz.2 r4.l (by rw [hpr]; simp); omega
     simp only [gRL, gL, gA, gC, List.map_cons, List.map_nil, RowB.blk, RowB.v, List.length_cons, List.length_nil, List.append_eq, List.nil_append, List.cons_append]
     refine W.region ?_
     refine omv ?_
     refine ov vlenS ?_
     refine ov (v2 V_neq) ?_
     refine omv ?_
     refine oy rfl (decide_eq_false (by simp)) ?_
     refine omv ?_
     refine oy rfl (decide_eq_false (by simp)) ?_
     refine ov (viS0 (j := 0)) ?_
     refine oy rfl (decide_eq_false (by simp)) ?_
     refine ov vld ?_
     refine oy rfl (decide_eq_false (by simp)) ?_
     refine ov vlenS ?_
     refine oy rfl (decide_eq_false (by simp)) ?_
     refine ov (v2 V_neq) ?_
     refine ov (V_pick_f rfl (decide_eq_false (by simp)) rfl) ?_
     refine omv ?_
     refine WL.splitD rfl (fun g1 => ?_) (fun g1 => ?_)
     · refine on rfl (decide_eq_true g1) ?_
       refine on rfl (decide_eq_true g1) ?_
       refine on rfl (decide_eq_true g1) ?_
       refine on rfl (decide_eq_true g1) ?_
       refine on rfl (decide_eq_true g1) ?_
       refine ov (V_pick_td rfl g1 rfl) ?_
       refine omv ?_
       refine on rfl rfl ?_
       refine on rfl rfl ?_
       refine on rfl rfl ?_
       refine on rfl rfl ?_
       refine on rfl rfl ?_
       refine ov (V_pick_t rfl rfl rfl) ?_
       refine nq ?_
       refine W.cond_true rfl rfl ?_
       refine sr ?_
       refine ov (V_build (by kernel_rfl) (zi (zs := [(1, [.int .i64 0]), (1, [.int .i64 0]), (1, [.slice none 0 0]), (32, List.replicate 32 (.int .u8 0)), (1, [.int .i64 0]), (1, [.int .i64 0]), (1, [.int .i64 0]), (1, [.int .i64 0]), (32, List.replicate 32 (.int .u8 0)), (32, List.replicate 32 (.int .u8 0))])) (.nil _)) ?_
       refine osta 103 ?_
       refine oas ?_
       refine nq ?_
       refine W.ret ?_
       refine WQ.then_ret ?_
       refine WQ.ret2 Try.results48 (.cellA 103 (by kernel_rfl) rfl at_ (by rfl)) (.tmp rfl) ?_
       intro w' hp; obtain ⟨e1, e2, e3⟩ := repE_no hE (okRows_f hpr (by rintro ⟨q0, q1, q3, q4, q5⟩; have := k0.1; have := k1.1; have := k3.1; first | omega | exact g4 q4 | (have q6 : rB (repR (some ⟨r2.b, 0, none⟩) r2.cap r0.l r1.l r2.l r3.l r4.l) = true := q5; simp_all; done)))
       refine ⟨none, by rw [e2]; rfl, ?_, by rw [e2]; exact hp.forget⟩
       rw [e1, e3, zeroR_V]; rfl
     · refine oy rfl (decide_eq_false g1) ?_
       refine omv ?_
       refine oy rfl (decide_eq_false g1) ?_
       refine ov (viS0 (j := 1)) ?_
       refine oy rfl (decide_eq_false g1) ?_
       refine ov vld ?_
       refine oy rfl (decide_eq_false g1) ?_
       refine ov vlenS ?_
       refine oy rfl (decide_eq_false g1) ?_
       refine ov (v2 V_neq) ?_
       refine ov (V_pick_fd rfl g1 rfl) ?_
       refine omv ?_
       refine WL.splitD rfl (fun g2 => ?_) (fun g2 => ?_)
       · refine on rfl (decide_eq_true g2) ?_
         refine on rfl (decide_eq_true g2) ?_
         refine on rfl (decide_eq_true g2) ?_
         refine on rfl (decide_eq_true g2) ?_
         refine on rfl (decide_eq_true g2) ?_
         refine ov (V_pick_td rfl g2 rfl) ?_
         refine nq ?_
         refine W.cond_true rfl rfl ?_
         refine sr ?_
         refine ov (V_build (by kernel_rfl) (zi (zs := [(1, [.int .i64 0]), (1, [.int .i64 0]), (1, [.slice none 0 0]), (32, List.replicate 32 (.int .u8 0)), (1, [.int .i64 0]), (1, [.int .i64 0]), (1, [.int .i64 0]), (1, [.int .i64 0]), (32, List.replicate 32 (.int .u8 0)), (32, List.replicate 32 (.int .u8 0))])) (.nil _)) ?_
         refine osta 103 ?_
         refine oas ?_
         refine nq ?_
         refine W.ret ?_
         refine WQ.then_ret ?_
         refine WQ.ret2 Try.results48 (.cellA 103 (by kernel_rfl) rfl at_ (by rfl)) (.tmp rfl) ?_
         intro w' hp; obtain ⟨e1, e2, e3⟩ := repE_no hE (okRows_f hpr (by rintro ⟨q0, q1, q3, q4, q5⟩; have := k0.1; have := k1.1; have := k3.1; first | omega | exact g4 q4 | (have q6 : rB (repR (some ⟨r2.b, 0, none⟩) r2.cap r0.l r1.l r2.l r3.l r4.l) = true := q5; simp_all; done)))
         refine ⟨none, by rw [e2]; rfl, ?_, by rw [e2]; exact hp.forget⟩
         rw [e1, e3, zeroR_V]; rfl
       · refine oy rfl (decide_eq_false g2) ?_
         refine omv ?_
         refine oy rfl (decide_eq_false g2) ?_
         refine ov (viS0 (j := 3)) ?_
         refine oy rfl (decide_eq_false g2) ?_
         refine ov vld ?_
         refine oy rfl (decide_eq_false g2) ?_
         refine ov vlenS ?_
         refine oy rfl (decide_eq_false g2) ?_
         refine ov (v2 V_neq) ?_
         refine ov (V_pick_fd rfl g2 rfl) ?_
         refine nq ?_
         refine W.cond_dec rfl (fun g3 => ?_) (fun g3 => ?_)
         · refine W.seq ?_
           refine W.region ?_
           refine ov (V_build (by kernel_rfl) (zi (zs := [(1, [.int .i64 0]), (1, [.int .i64 0]), (1, [.slice none 0 0]), (32, List.replicate 32 (.int .u8 0)), (1, [.int .i64 0]), (1, [.int .i64 0]), (1, [.int .i64 0]), (1, [.int .i64 0]), (32, List.replicate 32 (.int .u8 0)), (32, List.replicate 32 (.int .u8 0))])) (.nil _)) ?_
           refine osta 103 ?_
           refine oas ?_
           refine nq ?_
           refine W.ret ?_
           refine WQ.then_ret ?_
           refine WQ.ret2 Try.results48 (.cellA 103 (by kernel_rfl) rfl at_ (by rfl)) (.tmp rfl) ?_
           intro w' hp; obtain ⟨e1, e2, e3⟩ := repE_no hE (okRows_f hpr (by rintro ⟨q0, q1, q3, q4, q5⟩; have := k0.1; have := k1.1; have := k3.1; first | omega | exact g4 q4 | (have q6 : rB (repR (some ⟨r2.b, 0, none⟩) r2.cap r0.l r1.l r2.l r3.l r4.l) = true := q5; simp_all; done)))
           refine ⟨none, by rw [e2]; rfl, ?_, by rw [e2]; exact hp.forget⟩
           rw [e1, e3, zeroR_V]; rfl
         · refine W.skip ?_
           refine WQ.then ?_
           refine sr ?_
           refine omv ?_
           refine ov (viS0 (j := 4)) ?_
           refine ov vld ?_
           refine cp rfl (fun w hp => rread_calls _ _ _ r4.l w sw k4.2.2 (by omega) k4.2.1) ?_
           refine omv ?_
           refine ov vex ?_
           refine ov vex ?_
           unfold stV
           refine oal [(1, [.int .i64 0]), (1, [.int .i64 0]), (1, [.int .i64 0]), (1, [.int .i64 0]), (32, List.replicate 32 (.int .u8 0)), (32, List.replicate 32 (.int .u8 0))] (fun b6 => ?_)
           refine osta 68 ?_
           refine oas ?_
           refine nq ?_
           refine W.seq ?_
           refine sr ?_
           refine omv ?_
           refine ov (v2 V_neq) ?_
           refine nq ?_
           refine W.cond_dec rfl (fun g4 => ?_) (fun g4 => ?_)
           · refine W.seq ?_
             refine W.region ?_
             refine ov (V_build (by kernel_rfl) (zi (zs := [(1, [.int .i64 0]), (1, [.int .i64 0]), (1, [.slice none 0 0]), (32, List.replicate 32 (.int .u8 0)), (1, [.int .i64 0]), (1, [.int .i64 0]), (1, [.int .i64 0]), (1, [.int .i64 0]), (32, List.replicate 32 (.int .u8 0)), (32, List.replicate 32 (.int .u8 0))])) (.nil _)) ?_
             refine osta 103 ?_
             refine oas ?_
             refine nq ?_
             refine W.ret ?_
             refine WQ.then_ret ?_
             refine WQ.ret2 Try.results48 (.cellA 103 (by kernel_rfl) rfl at_ (by rfl)) (.tmp rfl) ?_
             intro w' hp; obtain ⟨e1, e2, e3⟩ := repE_no hE (okRows_f hpr (by rintro ⟨q0, q1, q3, q4, q5⟩; have := k0.1; have := k1.1; have := k3.1; first | omega | exact g4 q4 | (have q6 : rB (repR (some ⟨r2.b, 0, none⟩) r2.cap r0.l r1.l r2.l r3.l r4.l) = true := q5; simp_all; done)))
             refine ⟨none, by rw [e2]; rfl, ?_, by rw [e2]; exact hp.forget⟩
             rw [e1, e3, zeroR_V]; rfl
           · refine W.skip ?_
             refine WQ.then ?_
             refine W.seq ?_
             have g5 := (show bytes r1.l from k1.2.2).get 0
             have h4b := numH_bd4 k0.2.2 (by omega)
             apply W.j1
             · intro hJ
               refine dr (.q 0 (.q 1 (.q 2 (.q 5 (.q 6 (.q 7 (.q 8 (.q 9 (.q 10 (.q 11 (.q 12 (.q 13 (.q 14 (.l2 3 (.q 4 (.q 15 (.l 16 (.l 17 (.done))))) 16 (.l 3 (.q 4 (.q 15 (.l 17 (.done))))))))))))))))))) [(b6, _), (gb, _), (r1.b, _)] ?_
               refine dq rfl (V_move rfl) ?_
               refine dq rfl (viS0 (j := 0)) ?_
               refine dq rfl vld ?_
               refine dq rfl (V_move rfl) ?_
               refine dq rfl (viS0 (j := 1)) ?_
               refine dq rfl vld ?_
               refine dq rfl (viS0 (j := 0)) ?_
               refine dq rfl vldI ?_
               first | refine dq rfl (vcvN .i64) ?_ | refine dq rfl (vcv .i64) ?_
               refine dq rfl (V_move rfl) ?_
               refine dq rfl (viS0 (j := 2)) ?_
               refine dq rfl vld ?_
               refine dq rfl (vlda 68) ?_
               refine WD.l2 ?_ ?_
               · refine dcp rfl rfl (fun w hp => rofHigh_calls _ _ _ _ w sw sc sc sc) ?_
                 first | refine dq rfl (vcvN .i64) ?_ | refine dq rfl (vcv .i64) ?_
                 refine dq rfl (V_build (by kernel_rfl) (zi (zs := [(1, [.int .i64 0]), (1, [.int .i64 0]), (1, [.slice none 0 0]), (32, List.replicate 32 (.int .u8 0)), (1, [.int .i64 0]), (1, [.int .i64 0]), (1, [.int .i64 0]), (1, [.int .i64 0]), (32, List.replicate 32 (.int .u8 0)), (32, List.replicate 32 (.int .u8 0))])) (.one (k := 0) rfl rfl (by kernel_rfl) rfl (.one (k := 1) rfl rfl (by kernel_rfl) rfl (.one (k := 2) rfl rfl (by kernel_rfl) rfl (.agg (k := 35) (n := 68) rfl fit fln (by kernel_rfl) rfl (.nil _)))))) ?_
                 refine WD.l ?_
                 refine dal rfl [(1, [.int .i64 0]), (1, [.int .i64 0]), (1, [.slice none 0 0]), (32, List.replicate 32 (.int .u8 0)), (1, [.int .i64 0]), (1, [.int .i64 0]), (1, [.int .i64 0]), (1, [.int .i64 0]), (32, List.replicate 32 (.int .u8 0)), (32, List.replicate 32 (.int .u8 0))] (fun b7 => ?_)
                 refine WD.l ?_
                 refine dsta rfl 103 ?_
                 refine WD.done ?_
                 exact WQ.pick (S' := [(0, _), (2, _), (3, _), (4, _), (5, _), (6, _), (7, _), (15, _), (41, _), (51, _)]) [0, 2, 3, 4, 5, 6, 7, 15, 41, 51] rfl (hJ b7)
               · refine dal rfl [(1, [.int .i64 0]), (1, [.int .i64 0]), (1, [.slice none 0 0]), (32, List.replicate 32 (.int .u8 0)), (1, [.int .i64 0]), (1, [.int .i64 0]), (1, [.int .i64 0]), (1, [.int .i64 0]), (32, List.replicate 32 (.int .u8 0)), (32, List.replicate 32 (.int .u8 0))] (fun b7 => ?_)
                 refine WD.l ?_
                 refine dcp rfl rfl (fun w hp => rofHigh_calls _ _ _ _ w sw sc sc sc) ?_
                 first | refine dq rfl (vcvN .i64) ?_ | refine dq rfl (vcv .i64) ?_
                 refine dq rfl (V_build (by kernel_rfl) (zi (zs := [(1, [.int .i64 0]), (1, [.int .i64 0]), (1, [.slice none 0 0]), (32, List.replicate 32 (.int .u8 0)), (1, [.int .i64 0]), (1, [.int .i64 0]), (1, [.int .i64 0]), (1, [.int .i64 0]), (32, List.replicate 32 (.int .u8 0)), (32, List.replicate 32 (.int .u8 0))])) (.one (k := 0) rfl rfl (by kernel_rfl) rfl (.one (k := 1) rfl rfl (by kernel_rfl) rfl (.one (k := 2) rfl rfl (by kernel_rfl) rfl (.agg (k := 35) (n := 68) rfl fit fln (by kernel_rfl) rfl (.nil _)))))) ?_
                 refine WD.l ?_
                 refine dsta rfl 103 ?_
                 refine WD.done ?_
                 exact WQ.pick (S' := [(0, _), (2, _), (3, _), (4, _), (5, _), (6, _), (7, _), (15, _), (41, _), (51, _)]) [0, 2, 3, 4, 5, 6, 7, 15, 41, 51] rfl (hJ b7)
             intro b7
             refine WQ.then ?_
             refine W.seq ?_
             refine sr ?_
             refine oas ?_
             refine nq ?_
             refine W.block ?_
             -- LOOP 0
             simp only [iv_rep]
             refine W.pick (S' := [(8, _), (0, _), (2, _), (3, _), (4, _), (5, _), (6, _), (7, _), (15, _), (41, _), (51, _)]) [8, 0, 2, 3, 4, 5, 6, 7, 15, 41, 51] rfl ?_
             refine W.loopG (σ := Nat) (fun i => i ≤ 32) (fun i => [(8, .int .i64 (i : Nat))]) (fun i => [(b7, .cells [(1, [.int .i64 (numH (r0.l.take 8))]), (1, [.int .i64 (r1.l.getD 0 0)]), (1, [.slice (some ⟨r2.b, 0, none⟩) r2.n r2.cap]), (32, iv .u8 (r3.l.take i ++ List.replicate (32 - i) 0)), (1, [.int .i64 (readF r4.l).epoch]), (1, [.int .i64 (readF r4.l).fr]), (1, [.int .i64 (readF r4.l).to]), (1, [.int .i64 (readF r4.l).time]), (32, iv .u8 (readF r4.l).commit), (32, iv .u8 (readF r4.l).tag)] 73)]) [(b6, _), (b2, _), (gb, _), (r2.b, _), (r3.b, _)] (fun i => []) (fun i => 32 - i) 0 rfl cov (Nat.zero_le _) ?_
             rintro i hi
             refine W.seq ?_
             refine sr ?_
             refine omv ?_
             refine ov (v2 V_lss) ?_
             refine nq ?_
             refine W.cond_dec rfl (fun g5 => ?_) (fun g5 => ?_)
             · refine W.skip ?_
               refine WQ.then ?_
               refine W.seq ?_
               refine W.block ?_
               refine W.region ?_
               refine omv ?_
               refine omv ?_
               refine ov (viS0 (j := 3)) ?_
               refine ov vld ?_
               refine omv ?_
               refine ov (viS0) ?_
               refine ov (vldI) ?_
               refine ov (vfa0 3 32) ?_
               first | refine ov (viAP 32) ?_ | refine ov (viAPZ 32) ?_
               refine ostP 3 ?_
               refine WL.nil ?_
               refine WQ.block_normal ?_
               refine WQ.then ?_
               refine W.region ?_
               refine omv ?_
               first | refine ov vaddN ?_ | refine ov vadd ?_
               refine oas ?_
               refine WL.nil ?_
               rw [fillTake (by omega) (by omega)]
               exact ag (i + 1) [8, 0, 2, 3, 4, 5, 6, 7, 15, 41, 51] (sc) (by (try dsimp only); omega) rfl cov
             · refine W.exit ?_
               refine WQ.then_exit ?_
               refine WQ.then_exit ?_
               refine WQ.block_hit ?_
               refine WQ.then ?_
               refine W.seq ?_
               refine W.seq ?_
               obtain rfl : i = 32 := by omega
               have hl3 : r3.l.length = 32 := by have := k3.1; omega
               have htk : r3.l.take 32 = r3.l := List.take_of_length_le (by omega)
               simp only [Nat.sub_self, List.replicate_zero, List.append_nil, htk, ← k2.1]
               have hB : RepOK (repR (some ⟨r2.b, 0, none⟩) r2.cap r0.l r1.l r2.l r3.l r4.l) := ⟨hl3, hbr3, readF_c, readF_cb k4.2.2, readF_t, readF_tb k4.2.2, k2.2.2, by show r2.l.length ≤ r2.cap; omega⟩
               refine W.region ?_
               refine ov (vlda 103) ?_
               refine cp rfl (fun w hp => rrepright_calls (repR (some ⟨r2.b, 0, none⟩) r2.cap r0.l r1.l r2.l r3.l r4.l) hB w) ?_
               refine ov vnot ?_
               refine nq ?_
               refine W.cond rfl (fun g6 => ?_) (fun g6 => ?_)
               · refine W.seq ?_
                 refine W.region ?_
                 refine ov (V_build (by kernel_rfl) (zi (zs := [(1, [.int .i64 0]), (1, [.int .i64 0]), (1, [.slice none 0 0]), (32, List.replicate 32 (.int .u8 0)), (1, [.int .i64 0]), (1, [.int .i64 0]), (1, [.int .i64 0]), (1, [.int .i64 0]), (32, List.replicate 32 (.int .u8 0)), (32, List.replicate 32 (.int .u8 0))])) (.nil _)) ?_
                 refine osta 103 ?_
                 refine oas ?_
                 refine nq ?_
                 refine W.ret ?_
                 refine WQ.then_ret ?_
                 refine WQ.ret2 Try.results48 (.cellA 103 (by kernel_rfl) rfl at_ (by rfl)) (.tmp rfl) ?_
                 intro w' hp; obtain ⟨e1, e2, e3⟩ := repE_no hE (okRows_f hpr (by rintro ⟨q0, q1, q3, q4, q5⟩; have := k0.1; have := k1.1; have := k3.1; first | omega | exact g4 q4 | (have q6 : rB (repR (some ⟨r2.b, 0, none⟩) r2.cap r0.l r1.l r2.l r3.l r4.l) = true := q5; simp_all; done)))
                 refine ⟨none, by rw [e2]; rfl, ?_, by rw [e2]; exact hp.forget⟩
                 rw [e1, e3, zeroR_V]; rfl
               · refine W.skip ?_
                 refine WQ.then ?_
                 refine sr ?_
                 refine ov (vlda 103) ?_
                 refine osta 103 ?_
                 refine oas ?_
                 refine nq ?_
                 refine W.ret ?_
                 refine WQ.ret2 Try.results48 (.cellA 103 (by kernel_rfl) rfl at_ (by rfl)) (.tmp rfl) ?_
                 intro w' hp
                 have q7 : rB (repR (some ⟨r2.b, 0, none⟩) r2.cap r0.l r1.l r2.l r3.l r4.l) = true := by simp_all
                 have e0 := repE_ok hE (okRows_mk hpr ⟨by have := k0.1; omega, by have := k1.1; omega, hl3, by omega, q7⟩)
                 have tx : repTx l = r2.l := by unfold repTx; rw [if_pos e0, hpr]; rfl
                 have rd : ∀ o, repRd o l = repR (gA o) (gC o) r0.l r1.l r2.l r3.l r4.l := fun o => by unfold repRd; rw [if_pos e0, hpr]; rfl
                 refine ⟨some (r2.b, r2.cap, r2.rs), by rw [tx, k2.1]; exact k2.2.1, ?_, ?_⟩
                 · rw [e0, rd]; rfl
                 · rw [tx]
                   refine hp.sub (List.singleton_sublist.2 ?_)
                   simp
   · refine W.region ?_
     refine omv ?_
     refine ov vlenS ?_
     refine ov (v2 V_neq) ?_
     refine omv ?_
     refine on rfl (decide_eq_true (by have := congrArg List.length h11.2; simp only [GR.ll, List.length_map] at this; omega)) ?_
     refine on rfl (decide_eq_true (by have := congrArg List.length h11.2; simp only [GR.ll, List.length_map] at this; omega)) ?_
     refine on rfl (decide_eq_true (by have := congrArg List.length h11.2; simp only [GR.ll, List.length_map] at this; omega)) ?_
     refine on rfl (decide_eq_true (by have := congrArg List.length h11.2; simp only [GR.ll, List.length_map] at this; omega)) ?_
     refine on rfl (decide_eq_true (by have := congrArg List.length h11.2; simp only [GR.ll, List.length_map] at this; omega)) ?_
     refine ov (V_pick_t rfl (decide_eq_true (by have := congrArg List.length h11.2; simp only [GR.ll, List.length_map] at this; omega)) rfl) ?_
     refine omv ?_
     refine on rfl rfl ?_
     refine on rfl rfl ?_
     refine on rfl rfl ?_
     refine on rfl rfl ?_
     refine on rfl rfl ?_
     refine ov (V_pick_t rfl rfl rfl) ?_
     refine omv ?_
     refine on rfl rfl ?_
     refine on rfl rfl ?_
     refine on rfl rfl ?_
     refine on rfl rfl ?_
     refine on rfl rfl ?_
     refine ov (V_pick_t rfl rfl rfl) ?_
     refine nq ?_
     refine W.cond_true rfl rfl ?_
     refine sr ?_
     refine ov (V_build (by kernel_rfl) (zi (zs := [(1, [.int .i64 0]), (1, [.int .i64 0]), (1, [.slice none 0 0]), (32, List.replicate 32 (.int .u8 0)), (1, [.int .i64 0]), (1, [.int .i64 0]), (1, [.int .i64 0]), (1, [.int .i64 0]), (32, List.replicate 32 (.int .u8 0)), (32, List.replicate 32 (.int .u8 0))])) (.nil _)) ?_
     refine osta 103 ?_
     refine oas ?_
     refine nq ?_
     refine W.ret ?_
     refine WQ.then_ret ?_
     refine WQ.ret2 Try.results48 (.cellA 103 (by kernel_rfl) rfl at_ (by rfl)) (.tmp rfl) ?_
     intro w' hp; obtain ⟨e1, e2, e3⟩ := repE_no hE (okRows_len h5)
     refine ⟨none, by rw [e2]; rfl, ?_, by rw [e2]; exact hp.forget⟩
     rw [e1, e3, zeroR_V]; rfl
 · refine W.region ?_
   refine omv ?_
   refine ov (v2 V_neq) ?_
   refine nq ?_
   refine W.cond_true rfl (decide_eq_true hE) ?_
   refine sr ?_
   refine ov (V_build (by kernel_rfl) (zi (zs := [(1, [.int .i64 0]), (1, [.int .i64 0]), (1, [.slice none 0 0]), (32, List.replicate 32 (.int .u8 0)), (1, [.int .i64 0]), (1, [.int .i64 0]), (1, [.int .i64 0]), (1, [.int .i64 0]), (32, List.replicate 32 (.int .u8 0)), (32, List.replicate 32 (.int .u8 0))])) (.nil _)) ?_
   refine omv ?_
   refine osta 103 ?_
   refine oas ?_
   refine nq ?_
   refine W.ret ?_
   refine WQ.then_ret ?_
   refine WQ.ret2 Try.results48 (.cellA 103 (by kernel_rfl) rfl at_ (by rfl)) (.tmp rfl) ?_
   intro w' hp; obtain ⟨e1, e2, e3⟩ := partE_ne hE; have e4 : partE l = 3 := by unfold partE at hE ⊢; split at hE <;> simp_all
   refine ⟨none, by rw [e2]; rfl, ?_, by rw [e2]; exact hp.forget⟩
   rw [e1, e3, zeroR_V, e4]; rfl

end Go.Proofs.Ytbalnjejamigaaa