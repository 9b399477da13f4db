/- stamp: the document's answer, read. -/
import Derived.Test.YtbalnjejamigaaaStamp4
set_option linter.unusedVariables false
set_option linter.unusedSimpArgs false

namespace Go.Proofs.Ytbalnjejamigaaa
open Go.X
theorem fillD {l : List Int} {i o : Nat} (hi : i < 32) (h : o + 32 ≤ l.length) : ((l.drop o).take i ++ List.replicate (32 - i) 0).set i (l.getD (o + i) 0) = (l.drop o).take (i + 1) ++ List.replicate (32 - (i + 1)) 0 := by
  rw [show l.getD (o + i) 0 = (l.drop o).getD i 0 by simp [List.getD_eq_getElem?_getD, List.getElem?_drop]]
  exact fillTake hi (by simp; omega)

theorem rofHigh_calls (A : Option Addr) (n cap : Nat) (l : List Int) (w : World) (hs : SrW w 1 A n (iv .u8 l)) (hb : bytes l) (hn : n ≤ cap) (hn2 : n ≤ 4000000) :
    Calls Try.prog 77 [.slice A n cap].toArray w fun e w' => e = .returned (.int .u64 (numH (l.take 8))) ∧ HP w w' [] [] := by
 have hl := SrW.ilen hs
 refine calls_of_W Try.func77 rfl Try.ntmps77 rfl rfl (HP.refl w []) ?_
 refine sr ?_
 refine oas ?_
 refine nx ?_
 refine oas ?_
 refine nq ?_
 refine W.seq ?_
 refine sr ?_
 refine oas ?_
 refine nq ?_
 refine W.block ?_
 -- LOOP 0
 refine W.pick (S' := [(3, _), (4, _), (0, _), (2, _)]) [3, 4, 0, 2] rfl ?_
 refine W.loopG (σ := Nat) (fun i => i ≤ n ∧ i ≤ 8) (fun i => [(3, .int .u64 (numH (l.take i))), (4, .int .i64 (i : Nat))]) (fun i => []) [] (fun i => []) (fun i => n - i) 0 rfl cov ⟨Nat.zero_le _, by decide⟩ ?_
 rintro i ⟨hi, hi2⟩; dsimp only at hi hi2 ⊢
 refine W.seq ?_
 refine sr ?_
 refine omv ?_
 refine omv ?_
 refine ov vlenS ?_
 refine ov (v2 V_lss) ?_
 refine omv ?_
 refine WL.splitD rfl (fun g1 => ?_) (fun g1 => ?_)
 · refine oy rfl (decide_eq_true g1) ?_
   refine omv ?_
   refine oy rfl (decide_eq_true g1) ?_
   refine ov (v2 V_lss) ?_
   refine ov (V_pick_td rfl g1 rfl) ?_
   refine nq ?_
   refine W.cond_dec rfl (fun g2 => ?_) (fun g2 => ?_)
   · refine W.skip ?_
     refine WQ.then ?_
     refine W.seq ?_
     refine W.block ?_
     refine W.region ?_
     have hc := hb.get i; have hd := numH_bd hb i (by omega) (by omega)
     refine omv ?_
     first | refine ov vmulN ?_ | refine ov vmul ?_
     refine omv ?_
     refine omv ?_
     obtain ⟨bbA, ooA, rfl⟩ := hs.hasN sc
     first | refine ov viS1 ?_ | refine ov viS1Z ?_
     refine ov (vldS _) ?_
     first | refine ov (vcvN .u64) ?_ | refine ov (vcv .u64) ?_
     first | refine ov vaddN ?_ | refine ov vadd ?_
     refine oas ?_
     refine WL.nil ?_
     refine WQ.block_normal ?_
     refine WQ.then ?_
     refine W.region ?_
     refine omv ?_
     first | refine ov vaddN ?_ | refine ov vadd ?_
     refine oas ?_
     refine WL.nil ?_
     rw [← numH_snoc, ← take_snoc (by omega)]
     exact ag (i + 1) [3, 4, 0, 2] (by (try dsimp only); exact ⟨by omega, by omega⟩) (by (try dsimp only); omega) rfl cov
   · refine W.exit ?_
     refine WQ.then_exit ?_
     refine WQ.then_exit ?_
     refine WQ.block_hit ?_
     refine WQ.then ?_
     refine sr ?_
     refine omv ?_
     refine oas ?_
     refine nq ?_
     refine W.ret ?_
     refine WQ.ret1 Try.results77 (.tmp rfl) ?_
     intro w' hp; have hin : l.take i = l.take 8 := by
       by_cases h8 : n ≤ 8
       · rw [List.take_of_length_le (by omega), List.take_of_length_le (by omega)]
       · rw [show i = 8 by omega]
     rw [hin]; exact ⟨rfl, hp.forget⟩
 · refine on rfl (decide_eq_false g1) ?_
   refine on rfl (decide_eq_false g1) ?_
   refine ov (V_pick_fd rfl g1 rfl) ?_
   refine nq ?_
   refine W.cond_false rfl rfl ?_
   refine W.exit ?_
   refine WQ.then_exit ?_
   refine WQ.then_exit ?_
   refine WQ.block_hit ?_
   refine WQ.then ?_
   refine sr ?_
   refine omv ?_
   refine oas ?_
   refine nq ?_
   refine W.ret ?_
   refine WQ.ret1 Try.results77 (.tmp rfl) ?_
   intro w' hp; have hin : l.take i = l.take 8 := by
     by_cases h8 : n ≤ 8
     · rw [List.take_of_length_le (by omega), List.take_of_length_le (by omega)]
     · rw [show i = 8 by omega]
   rw [hin]; exact ⟨rfl, hp.forget⟩

theorem rread_calls (A : Option Addr) (n cap : Nat) (l : List Int) (w : World) (hs : SrW w 1 A n (iv .u8 l)) (hb : bytes l) (hn : n ≤ 1000000) (hc : n ≤ cap) :
    Calls Try.prog 43 [.slice A n cap].toArray w fun e w' => e = .returned (.tuple #[AG (stV (readF l)), .int .i64 (readE l)]) ∧ HP w w' [] [] := by
 have hl := SrW.ilen hs
 refine calls_of_W Try.func43 rfl Try.ntmps43 rfl rfl (HP.refl w []) ?_
 refine sr ?_
 refine oal [(1, [.int .i64 0]), (1, [.int .i64 0]), (1, [.int .i64 0]), (1, [.int .i64 0]), (32, List.replicate 32 (.int .u8 0)), (32, List.replicate 32 (.int .u8 0))] (fun b2 => ?_)
 refine oas ?_
 refine nq ?_
 refine W.seq ?_
 refine sr ?_
 refine omv ?_
 refine ov vlenS ?_
 refine ov (v2 V_lss) ?_
 refine nq ?_
 refine W.cond_dec rfl (fun g1 => ?_) (fun g1 => ?_)
 · refine W.seq ?_
   refine W.region ?_
   refine ov (V_build (by kernel_rfl) (zi (zs := [(1, [.int .i64 0]), (1, [.int .i64 0]), (1, [.int .i64 0]), (1, [.int .i64 0]), (32, List.replicate 32 (.int .u8 0)), (32, List.replicate 32 (.int .u8 0))])) (.nil _)) ?_
   refine osta 68 ?_
   refine oas ?_
   refine nq ?_
   refine W.ret ?_
   refine WQ.then_ret ?_
   refine WQ.ret2 Try.results43 (.cellA 68 (by kernel_rfl) rfl at_ (by rfl)) (.tmp rfl) ?_
   intro w' hp; have he := readE3 (l := l) (by omega)
   rw [readFb he (by decide), he]; exact ⟨rfl, hp.forget⟩
 · refine W.skip ?_
   refine WQ.then ?_
   refine W.seq ?_
   have h4 := numH_bd4 (hb.take 4) (by simp; omega)
   have h6 := numH_bd4 ((hb.drop 6).take (10 - 6)) (by simp; omega)
   have g4 := hb.get 4
   have g5 := hb.get 5
   obtain ⟨bbA, ooA, rfl⟩ := hs.hasN sc
   apply W.j1
   · intro hJ
     refine dr (.q 0 (.q 1 (.q 4 (.q 5 (.q 6 (.q 7 (.q 8 (.q 9 (.q 10 (.q 11 (.q 12 (.q 13 (.l2 2 (.q 3 (.l2 14 (.q 15 (.q 16 (.l 17 (.l 18 (.done))))) 17 (.l 14 (.q 15 (.q 16 (.l 18 (.done))))))) 17 (.l 2 (.q 3 (.l 14 (.q 15 (.q 16 (.l 18 (.done)))))))))))))))))))) [] ?_
     refine dq rfl (V_move rfl) ?_
     refine dq rfl (vsl0 (h := 4) 1) ?_
     refine dq rfl (V_move rfl) ?_
     refine dq rfl (viS1 (j := 4)) ?_
     refine dq rfl (vldS _) ?_
     first | refine dq rfl (vcvN .i64) ?_ | refine dq rfl (vcv .i64) ?_
     refine dq rfl (V_move rfl) ?_
     refine dq rfl (viS1 (j := 5)) ?_
     refine dq rfl (vldS _) ?_
     first | refine dq rfl (vcvN .i64) ?_ | refine dq rfl (vcv .i64) ?_
     refine dq rfl (V_move rfl) ?_
     refine dq rfl (vsl (l := 6) (h := 10) 1) ?_
     refine WD.l2 ?_ ?_
     · refine dcp rfl rfl (fun w hp => rofHigh_calls _ _ _ _ w sw sc sc sc) ?_
       first | refine dq rfl (vcvN .i64) ?_ | refine dq rfl (vcv .i64) ?_
       refine WD.l2 ?_ ?_
       · refine dcp rfl rfl (fun w hp => rofHigh_calls _ _ _ _ w sw sc sc sc) ?_
         first | refine dq rfl (vcvN .i64) ?_ | refine dq rfl (vcv .i64) ?_
         refine dq rfl (V_build (by kernel_rfl) (zi (zs := [(1, [.int .i64 0]), (1, [.int .i64 0]), (1, [.int .i64 0]), (1, [.int .i64 0]), (32, List.replicate 32 (.int .u8 0)), (32, List.replicate 32 (.int .u8 0))])) (.one (k := 0) rfl rfl (by kernel_rfl) rfl (.one (k := 1) rfl rfl (by kernel_rfl) rfl (.one (k := 2) rfl rfl (by kernel_rfl) rfl (.one (k := 3) rfl rfl (by kernel_rfl) rfl (.nil _)))))) ?_
         refine WD.l ?_
         refine dal rfl [(1, [.int .i64 0]), (1, [.int .i64 0]), (1, [.int .i64 0]), (1, [.int .i64 0]), (32, List.replicate 32 (.int .u8 0)), (32, List.replicate 32 (.int .u8 0))] (fun b4 => ?_)
         refine WD.l ?_
         refine dsta rfl 68 ?_
         refine WD.done ?_
         exact WQ.pick (S' := [(0, _), (2, _), (3, _), (4, _), (10, _)]) [0, 2, 3, 4, 10] rfl (hJ b4)
       · refine dal rfl [(1, [.int .i64 0]), (1, [.int .i64 0]), (1, [.int .i64 0]), (1, [.int .i64 0]), (32, List.replicate 32 (.int .u8 0)), (32, List.replicate 32 (.int .u8 0))] (fun b4 => ?_)
         refine WD.l ?_
         refine dcp rfl rfl (fun w hp => rofHigh_calls _ _ _ _ w sw sc sc sc) ?_
         first | refine dq rfl (vcvN .i64) ?_ | refine dq rfl (vcv .i64) ?_
         refine dq rfl (V_build (by kernel_rfl) (zi (zs := [(1, [.int .i64 0]), (1, [.int .i64 0]), (1, [.int .i64 0]), (1, [.int .i64 0]), (32, List.replicate 32 (.int .u8 0)), (32, List.replicate 32 (.int .u8 0))])) (.one (k := 0) rfl rfl (by kernel_rfl) rfl (.one (k := 1) rfl rfl (by kernel_rfl) rfl (.one (k := 2) rfl rfl (by kernel_rfl) rfl (.one (k := 3) rfl rfl (by kernel_rfl) rfl (.nil _)))))) ?_
         refine WD.l ?_
         refine dsta rfl 68 ?_
         refine WD.done ?_
         exact WQ.pick (S' := [(0, _), (2, _), (3, _), (4, _), (10, _)]) [0, 2, 3, 4, 10] rfl (hJ b4)
     · refine dal rfl [(1, [.int .i64 0]), (1, [.int .i64 0]), (1, [.int .i64 0]), (1, [.int .i64 0]), (32, List.replicate 32 (.int .u8 0)), (32, List.replicate 32 (.int .u8 0))] (fun b4 => ?_)
       refine WD.l ?_
       refine dcp rfl rfl (fun w hp => rofHigh_calls _ _ _ _ w sw sc sc sc) ?_
       first | refine dq rfl (vcvN .i64) ?_ | refine dq rfl (vcv .i64) ?_
       refine WD.l ?_
       refine dcp rfl rfl (fun w hp => rofHigh_calls _ _ _ _ w sw sc sc sc) ?_
       first | refine dq rfl (vcvN .i64) ?_ | refine dq rfl (vcv .i64) ?_
       refine dq rfl (V_build (by kernel_rfl) (zi (zs := [(1, [.int .i64 0]), (1, [.int .i64 0]), (1, [.int .i64 0]), (1, [.int .i64 0]), (32, List.replicate 32 (.int .u8 0)), (32, List.replicate 32 (.int .u8 0))])) (.one (k := 0) rfl rfl (by kernel_rfl) rfl (.one (k := 1) rfl rfl (by kernel_rfl) rfl (.one (k := 2) rfl rfl (by kernel_rfl) rfl (.one (k := 3) rfl rfl (by kernel_rfl) rfl (.nil _)))))) ?_
       refine WD.l ?_
       refine dsta rfl 68 ?_
       refine WD.done ?_
       exact WQ.pick (S' := [(0, _), (2, _), (3, _), (4, _), (10, _)]) [0, 2, 3, 4, 10] rfl (hJ b4)
   intro b4
   refine WQ.then ?_
   refine W.seq ?_
   refine sr ?_
   refine oas ?_
   refine nq ?_
   refine W.block ?_
   -- LOOP 0
   simp only [iv_rep]
   refine W.pick (S' := [(5, _), (0, _), (2, _), (3, _), (4, _), (10, _)]) [5, 0, 2, 3, 4, 10] rfl ?_
   refine W.loopG (σ := Nat) (fun i => i ≤ 32) (fun i => [(5, .int .i64 (i : Nat))]) (fun i => [(b4, .cells [(1, [.int .i64 (numH ((l.take 4).take 8))]), (1, [.int .i64 (l.getD 4 0)]), (1, [.int .i64 (l.getD 5 0)]), (1, [.int .i64 (numH (((l.drop 6).take (10 - 6)).take 8))]), (32, iv .u8 ((l.drop 10).take i ++ List.replicate (32 - i) 0)), (32, iv .u8 ((l.drop 42).take i ++ List.replicate (32 - i) 0))] 56)]) [(b2, _)] (fun i => []) (fun i => 32 - i) 0 rfl cov (Nat.zero_le _) ?_
   rintro i hi
   refine W.seq ?_
   refine sr ?_
   refine omv ?_
   refine ov (v2 V_lss) ?_
   refine nq ?_
   refine W.cond_dec rfl (fun g2 => ?_) (fun g2 => ?_)
   · refine W.skip ?_
     refine WQ.then ?_
     refine W.seq ?_
     refine W.block ?_
     refine sr ?_
     refine omv ?_
     refine omv ?_
     refine omv ?_
     first | refine ov vaddN ?_ | refine ov vadd ?_
     first | refine ov viS1 ?_ | refine ov viS1Z ?_
     refine ov (vldS _) ?_
     refine ov (vfa0 4 32) ?_
     first | refine ov (viAP 32) ?_ | refine ov (viAPZ 32) ?_
     refine ostP 4 ?_
     refine nq ?_
     refine W.region ?_
     refine omv ?_
     refine omv ?_
     refine omv ?_
     first | refine ov vaddN ?_ | refine ov vadd ?_
     first | refine ov viS1 ?_ | refine ov viS1Z ?_
     refine ov (vldS _) ?_
     refine ov (vfa0 36 32) ?_
     first | refine ov (viAP 32) ?_ | refine ov (viAPZ 32) ?_
     refine ostP 36 ?_
     refine WL.nil ?_
     refine WQ.block_normal ?_
     refine WQ.then ?_
     refine W.region ?_
     refine omv ?_
     first | refine ov vaddN ?_ | refine ov vadd ?_
     refine oas ?_
     refine WL.nil ?_
     rw [fillD (by omega) (by omega), fillD (by omega) (by omega)]
     exact ag (i + 1) [5, 0, 2, 3, 4, 10] (sc) (by (try dsimp only); omega) rfl cov
   · refine W.exit ?_
     refine WQ.then_exit ?_
     refine WQ.then_exit ?_
     refine WQ.block_hit ?_
     refine WQ.then ?_
     refine W.seq ?_
     obtain rfl : i = 32 := by omega
     simp only [Nat.sub_self, List.replicate_zero, List.append_nil]
     have hR := readE_ref hb (by omega)
     have hc0 := readS_c (l := l) (by omega)
     have ht0 := readS_t (l := l) (by omega)
     refine W.region ?_
     refine ov (vlda 68) ?_
     refine cgG rfl (fun w hp => rsbytes_calls (readS l) (readS_c (by omega)) ((hb.drop 10).take 32) (readS_t (by omega)) ((hb.drop 42).take 32) w) (fun o51 h51 => ?_)
     refine omv ?_
     refine ov vex ?_
     refine ov vex ?_
     refine oas ?_
     refine oas ?_
     refine nq ?_
     refine W.seq ?_
     refine W.seq ?_
     by_cases hrr : rightB (readS l) = true
     · have e1 := bN_t hrr; have e2 := bF_t hrr; rw [e1] at h51; rw [e1, e2]
       have hlen := bytesL_len hc0 ht0; have hbb : bytes (bytesL (readS l)) := bytesL_bytes hrr ((hb.drop 10).take 32) ((hb.drop 42).take 32)
       refine W.region ?_
       refine omv ?_
       refine ov (v2 V_neq) ?_
       refine omv ?_
       refine oy rfl (decide_eq_false (by simp [hrr])) ?_
       refine omv ?_
       refine oy rfl (decide_eq_false (by simp [hrr])) ?_
       refine ov vbs ?_
       refine oy rfl (decide_eq_false (by simp [hrr])) ?_
       refine omv ?_
       refine oy rfl (decide_eq_false (by simp [hrr])) ?_
       refine ov vbs ?_
       refine oy rfl (decide_eq_false (by simp [hrr])) ?_
       refine ov vneS ?_
       refine ov (V_pick_f rfl (decide_eq_false (by simp [hrr])) rfl) ?_
       refine nq ?_
       refine W.cond rfl (fun g3 => ?_) (fun g3 => ?_)
       · refine W.seq ?_
         refine W.region ?_
         refine ov (V_build (by kernel_rfl) (zi (zs := [(1, [.int .i64 0]), (1, [.int .i64 0]), (1, [.int .i64 0]), (1, [.int .i64 0]), (32, List.replicate 32 (.int .u8 0)), (32, List.replicate 32 (.int .u8 0))])) (.nil _)) ?_
         refine osta 68 ?_
         refine oas ?_
         refine nq ?_
         refine W.ret ?_
         refine WQ.then_ret ?_
         refine WQ.ret2 Try.results43 (.cellA 68 (by kernel_rfl) rfl at_ (by rfl)) (.tmp rfl) ?_
         intro w' hp; have he : readE l = 2 := by rw [hR, if_neg (by rintro ⟨_, e⟩; simp [e] at g3)]
         rw [readFb he (by decide), he]; exact ⟨rfl, hp.forget⟩
       · refine W.skip ?_
         refine WQ.then ?_
         refine sr ?_
         refine ov (vlda 68) ?_
         refine osta 68 ?_
         refine oas ?_
         refine nq ?_
         refine W.ret ?_
         refine WQ.ret2 Try.results43 (.cellA 68 (by kernel_rfl) rfl at_ (by rfl)) (.tmp rfl) ?_
         intro w' hp; have he : readE l = 0 := by rw [hR, if_pos ⟨hrr, by simpa using g3⟩]
         rw [readFg he, he]; exact ⟨rfl, hp.forget⟩
     · refine W.region ?_
       refine omv ?_
       refine ov (v2 V_neq) ?_
       refine omv ?_
       refine on rfl (decide_eq_true (by simp [hrr])) ?_
       refine on rfl (decide_eq_true (by simp [hrr])) ?_
       refine on rfl (decide_eq_true (by simp [hrr])) ?_
       refine on rfl (decide_eq_true (by simp [hrr])) ?_
       refine on rfl (decide_eq_true (by simp [hrr])) ?_
       refine ov (V_pick_t rfl (decide_eq_true (by simp [hrr])) rfl) ?_
       refine nq ?_
       refine W.cond_true rfl rfl ?_
       refine sr ?_
       refine ov (V_build (by kernel_rfl) (zi (zs := [(1, [.int .i64 0]), (1, [.int .i64 0]), (1, [.int .i64 0]), (1, [.int .i64 0]), (32, List.replicate 32 (.int .u8 0)), (32, List.replicate 32 (.int .u8 0))])) (.nil _)) ?_
       refine osta 68 ?_
       refine oas ?_
       refine nq ?_
       refine W.ret ?_
       refine WQ.then_ret ?_
       refine WQ.ret2 Try.results43 (.cellA 68 (by kernel_rfl) rfl at_ (by rfl)) (.tmp rfl) ?_
       intro w' hp; have he : readE l = 2 := by rw [hR, if_neg (by rintro ⟨e, _⟩; exact hrr e)]
       rw [readFb he (by decide), he]; exact ⟨rfl, hp.forget⟩

end Go.Proofs.Ytbalnjejamigaaa