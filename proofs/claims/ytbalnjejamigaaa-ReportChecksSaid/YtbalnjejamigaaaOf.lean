/- Reports out of rows. -/
import Derived.Test.YtbalnjejamigaaaRep3
import Derived.Test.YtbalnjejamigaaaXB
set_option linter.unusedVariables false
set_option linter.unusedSimpArgs false

namespace Go.Proofs.Ytbalnjejamigaaa
open Go.X
def form17 : List PanicEntry := [{ v := .iface 26 (.int .i64 2), recovered := false }]

theorem must_ok (w : World) : Calls Try.prog 94 [.bool true].toArray w fun e w' => e = .returned (.tuple #[]) ∧ HP w w' [] [] := by
 refine calls_of_W Try.func94 rfl Try.ntmps94 rfl rfl (HP.refl w []) ?_
 refine sr ?_
 refine omv ?_
 refine ov vnot ?_
 refine nq ?_
 refine W.cond_false rfl rfl ?_
 refine W.skip ?_
 refine WQ.ret0 (.inr rfl) Try.results94 ?_
 intro w' hp; exact ⟨rfl, hp.forget⟩

theorem must_bad (w : World) : Calls Try.prog 94 [.bool false].toArray w fun e w' => e = .panicked form17 ∧ HP w w' [] [] := by
 refine calls_of_W Try.func94 rfl Try.ntmps94 rfl rfl (HP.refl w []) ?_
 refine sr ?_
 refine omv ?_
 refine ov vnot ?_
 refine nq ?_
 refine W.cond_true rfl rfl ?_
 refine W.region ?_
 refine ov V_mkI ?_
 refine opan ?_
 repeat refine WQ.then_panic ?_
 refine WQ.panicB ?_
 intro w' hp; exact ⟨rfl, hp.forget⟩

theorem must_yes (b : Bool) (h : b = true) (w : World) : Calls Try.prog 94 [.bool b].toArray w fun e w' => e = .returned (.tuple #[]) ∧ HP w w' [] [] := by subst h; exact must_ok w
theorem must_no (b : Bool) (h : b = false) (w : World) : Calls Try.prog 94 [.bool b].toArray w fun e w' => e = .panicked form17 ∧ HP w w' [] [] := by subst h; exact must_bad w
def repR (B : Option Addr) (c : Nat) (l0 l1 l2 l3 l4 : List Int) : RepS := ⟨numH (l0.take 8), l1.getD 0 0, B, l2.length, c, l2, l3, readF l4⟩

theorem of_len (A : Option Addr) (n cap : Nat) (ll : List (List Int)) (w : World) (hr : Rows w A n ll) (h5 : ll.length ≠ 5) :
    Calls Try.prog 83 [.slice A n cap].toArray w fun e w' => e = .panicked form17 ∧ HP w w' [] [] := by
 obtain ⟨hlen, hn, vs, hvs, hrow⟩ := hr.open
 refine calls_of_W Try.func83 rfl Try.ntmps83 rfl rfl (HP.refl w []) ?_
 refine sr ?_
 refine oal [(1, [.int .i64 0]), (1, [.int .i64 0]), (1, [.slice none 0 0]), (32, List.replicate 32 (.int .u8 0)), (1, [.int .i64 0]), (1, [.int .i64 0]), (1, [.int .i64 0]), (1, [.int .i64 0]), (32, List.replicate 32 (.int .u8 0)), (32, List.replicate 32 (.int .u8 0))] (fun b2 => ?_)
 refine nx ?_
 refine omv ?_
 refine ov vlenS ?_
 refine ov (v2 V_eql) ?_
 refine omv ?_
 refine on rfl (decide_eq_false (by omega)) ?_
 refine on rfl (decide_eq_false (by omega)) ?_
 refine on rfl (decide_eq_false (by omega)) ?_
 refine on rfl (decide_eq_false (by omega)) ?_
 refine on rfl (decide_eq_false (by omega)) ?_
 refine ov (V_pick_f rfl (decide_eq_false (by omega)) rfl) ?_
 refine omv ?_
 refine on rfl rfl ?_
 refine on rfl rfl ?_
 refine on rfl rfl ?_
 refine on rfl rfl ?_
 refine on rfl rfl ?_
 refine ov (V_pick_f rfl rfl rfl) ?_
 refine omv ?_
 refine on rfl rfl ?_
 refine on rfl rfl ?_
 refine on rfl rfl ?_
 refine on rfl rfl ?_
 refine on rfl rfl ?_
 refine ov (V_pick_f rfl rfl rfl) ?_
 refine cpan rfl (fun w hp => must_no _ (by first | rfl | exact decide_eq_false (by omega) | (simp [*]; done)) w) ?_
 repeat refine WQ.then_panic ?_
 refine WQ.panicB ?_
 intro w' hp; exact ⟨rfl, hp.forget⟩

theorem of_shape (l0 l1 l2 l3 l4 : List Int) (A : Option Addr) (n cap : Nat) (w : World) (hr : Rows w A n [l0, l1, l2, l3, l4]) (hm : l4.length ≤ 1000000) (h : ¬ (l0.length = 4 ∧ l1.length = 1 ∧ l3.length = 32)) :
    Calls Try.prog 83 [.slice A n cap].toArray w fun e w' => e = .panicked form17 ∧ HP w w' [] [] := by
 obtain ⟨hlen, hn, vs, hvs, hrow⟩ := hr.open
 simp only [List.length_cons, List.length_nil] at hlen
 obtain rfl : n = 5 := by omega
 obtain ⟨v0, hv0, B0, q0, c0, rfl, hc0, hs0, hb0⟩ := hrow 0 l0 rfl
 have hq0 := SrW.ilen hs0
 obtain ⟨v1, hv1, B1, q1, c1, rfl, hc1, hs1, hb1⟩ := hrow 1 l1 rfl
 have hq1 := SrW.ilen hs1
 obtain ⟨v2, hv2, B2, q2, c2, rfl, hc2, hs2, hb2⟩ := hrow 2 l2 rfl
 have hq2 := SrW.ilen hs2
 obtain ⟨v3, hv3, B3, q3, c3, rfl, hc3, hs3, hb3⟩ := hrow 3 l3 rfl
 have hq3 := SrW.ilen hs3
 obtain ⟨v4, hv4, B4, q4, c4, rfl, hc4, hs4, hb4⟩ := hrow 4 l4 rfl
 have hq4 := SrW.ilen hs4
 refine calls_of_W Try.func83 rfl Try.ntmps83 rfl rfl (HP.refl w []) ?_
 refine sr ?_
 refine oal [(1, [.int .i64 0]), (1, [.int .i64 0]), (1, [.slice none 0 0]), (32, List.replicate 32 (.int .u8 0)), (1, [.int .i64 0]), (1, [.int .i64 0]), (1, [.int .i64 0]), (1, [.int .i64 0]), (32, List.replicate 32 (.int .u8 0)), (32, List.replicate 32 (.int .u8 0))] (fun b2 => ?_)
 refine nx ?_
 refine omv ?_
 refine ov vlenS ?_
 refine ov (v2 V_eql) ?_
 refine omv ?_
 refine oy rfl (decide_eq_true (by omega)) ?_
 refine omv ?_
 obtain ⟨bbA, ooA, rfl⟩ := hvs.hasN sc
 refine oy rfl (decide_eq_true (by omega)) ?_
 refine ov (viS1 (j := 0)) ?_
 refine oy rfl (decide_eq_true (by omega)) ?_
 refine ov (vldV 0) ?_
 refine oy rfl (decide_eq_true (by omega)) ?_
 refine ov vlenS ?_
 refine oy rfl (decide_eq_true (by omega)) ?_
 refine ov (v2 V_eql) ?_
 refine ov (V_pick_t rfl (decide_eq_true (by omega)) rfl) ?_
 refine omv ?_
 refine WL.splitD rfl (fun g1 => ?_) (fun g1 => ?_)
 · refine oy rfl (decide_eq_true g1) ?_
   refine omv ?_
   refine oy rfl (decide_eq_true g1) ?_
   refine ov (viS1 (j := 1)) ?_
   refine oy rfl (decide_eq_true g1) ?_
   refine ov (vldV 1) ?_
   refine oy rfl (decide_eq_true g1) ?_
   refine ov vlenS ?_
   refine oy rfl (decide_eq_true g1) ?_
   refine ov (v2 V_eql) ?_
   refine ov (V_pick_td rfl g1 rfl) ?_
   refine omv ?_
   refine WL.splitD rfl (fun g2 => ?_) (fun g2 => ?_)
   · refine oy rfl (decide_eq_true g2) ?_
     refine omv ?_
     refine oy rfl (decide_eq_true g2) ?_
     refine ov (viS1 (j := 3)) ?_
     refine oy rfl (decide_eq_true g2) ?_
     refine ov (vldV 3) ?_
     refine oy rfl (decide_eq_true g2) ?_
     refine ov vlenS ?_
     refine oy rfl (decide_eq_true g2) ?_
     refine ov (v2 V_eql) ?_
     refine ov (V_pick_td rfl g2 rfl) ?_
     refine cpan rfl (fun w hp => must_no _ (by first | rfl | exact decide_eq_false (by omega) | (simp [*]; done)) w) ?_
     repeat refine WQ.then_panic ?_
     refine WQ.panicB ?_
     intro w' hp; exact ⟨rfl, hp.forget⟩
   · refine on rfl (decide_eq_false g2) ?_
     refine on rfl (decide_eq_false g2) ?_
     refine on rfl (decide_eq_false g2) ?_
     refine on rfl (decide_eq_false g2) ?_
     refine on rfl (decide_eq_false g2) ?_
     refine ov (V_pick_fd rfl g2 rfl) ?_
     refine cpan rfl (fun w hp => must_no _ (by first | rfl | exact decide_eq_false (by omega) | (simp [*]; done)) w) ?_
     repeat refine WQ.then_panic ?_
     refine WQ.panicB ?_
     intro w' hp; exact ⟨rfl, hp.forget⟩
 · refine on rfl (decide_eq_false g1) ?_
   refine on rfl (decide_eq_false g1) ?_
   refine on rfl (decide_eq_false g1) ?_
   refine on rfl (decide_eq_false g1) ?_
   refine on rfl (decide_eq_false g1) ?_
   refine ov (V_pick_fd rfl g1 rfl) ?_
   refine omv ?_
   refine on rfl rfl ?_
   refine on rfl rfl ?_
   refine on rfl rfl ?_
   refine on rfl rfl ?_
   refine on rfl rfl ?_
   refine ov (V_pick_f rfl rfl rfl) ?_
   refine cpan rfl (fun w hp => must_no _ (by first | rfl | exact decide_eq_false (by omega) | (simp [*]; done)) w) ?_
   repeat refine WQ.then_panic ?_
   refine WQ.panicB ?_
   intro w' hp; exact ⟨rfl, hp.forget⟩

theorem of_read (l0 l1 l2 l3 l4 : List Int) (A : Option Addr) (n cap : Nat) (w : World) (hr : Rows w A n [l0, l1, l2, l3, l4]) (hm : l4.length ≤ 1000000) (h : l0.length = 4 ∧ l1.length = 1 ∧ l3.length = 32) (h4 : readE l4 ≠ 0) :
    Calls Try.prog 83 [.slice A n cap].toArray w fun e w' => e = .panicked form17 ∧ HP w w' [] [] := by
 obtain ⟨hlen, hn, vs, hvs, hrow⟩ := hr.open
 simp only [List.length_cons, List.length_nil] at hlen
 obtain rfl : n = 5 := by omega
 obtain ⟨v0, hv0, B0, q0, c0, rfl, hc0, hs0, hb0⟩ := hrow 0 l0 rfl
 have hq0 := SrW.ilen hs0
 obtain ⟨v1, hv1, B1, q1, c1, rfl, hc1, hs1, hb1⟩ := hrow 1 l1 rfl
 have hq1 := SrW.ilen hs1
 obtain ⟨v2, hv2, B2, q2, c2, rfl, hc2, hs2, hb2⟩ := hrow 2 l2 rfl
 have hq2 := SrW.ilen hs2
 obtain ⟨v3, hv3, B3, q3, c3, rfl, hc3, hs3, hb3⟩ := hrow 3 l3 rfl
 have hq3 := SrW.ilen hs3
 obtain ⟨v4, hv4, B4, q4, c4, rfl, hc4, hs4, hb4⟩ := hrow 4 l4 rfl
 have hq4 := SrW.ilen hs4
 refine calls_of_W Try.func83 rfl Try.ntmps83 rfl rfl (HP.refl w []) ?_
 refine sr ?_
 refine oal [(1, [.int .i64 0]), (1, [.int .i64 0]), (1, [.slice none 0 0]), (32, List.replicate 32 (.int .u8 0)), (1, [.int .i64 0]), (1, [.int .i64 0]), (1, [.int .i64 0]), (1, [.int .i64 0]), (32, List.replicate 32 (.int .u8 0)), (32, List.replicate 32 (.int .u8 0))] (fun b2 => ?_)
 refine nx ?_
 refine omv ?_
 refine ov vlenS ?_
 refine ov (v2 V_eql) ?_
 refine omv ?_
 refine oy rfl (decide_eq_true (by omega)) ?_
 refine omv ?_
 obtain ⟨bbA, ooA, rfl⟩ := hvs.hasN sc
 refine oy rfl (decide_eq_true (by omega)) ?_
 refine ov (viS1 (j := 0)) ?_
 refine oy rfl (decide_eq_true (by omega)) ?_
 refine ov (vldV 0) ?_
 refine oy rfl (decide_eq_true (by omega)) ?_
 refine ov vlenS ?_
 refine oy rfl (decide_eq_true (by omega)) ?_
 refine ov (v2 V_eql) ?_
 refine ov (V_pick_t rfl (decide_eq_true (by omega)) rfl) ?_
 refine omv ?_
 refine oy rfl (decide_eq_true (by omega)) ?_
 refine omv ?_
 refine oy rfl (decide_eq_true (by omega)) ?_
 refine ov (viS1 (j := 1)) ?_
 refine oy rfl (decide_eq_true (by omega)) ?_
 refine ov (vldV 1) ?_
 refine oy rfl (decide_eq_true (by omega)) ?_
 refine ov vlenS ?_
 refine oy rfl (decide_eq_true (by omega)) ?_
 refine ov (v2 V_eql) ?_
 refine ov (V_pick_t rfl (decide_eq_true (by omega)) rfl) ?_
 refine omv ?_
 refine oy rfl (decide_eq_true (by omega)) ?_
 refine omv ?_
 refine oy rfl (decide_eq_true (by omega)) ?_
 refine ov (viS1 (j := 3)) ?_
 refine oy rfl (decide_eq_true (by omega)) ?_
 refine ov (vldV 3) ?_
 refine oy rfl (decide_eq_true (by omega)) ?_
 refine ov vlenS ?_
 refine oy rfl (decide_eq_true (by omega)) ?_
 refine ov (v2 V_eql) ?_
 refine ov (V_pick_t rfl (decide_eq_true (by omega)) rfl) ?_
 refine cp rfl (fun w hp => must_yes _ (by first | rfl | exact decide_eq_true (by omega) | (simp [*]; done)) w) ?_
 refine nx ?_
 refine omv ?_
 refine ov (viS1 (j := 4)) ?_
 refine ov (vldV 4) ?_
 refine cp rfl (fun w hp => sread_calls _ _ _ l4 w sw hb4 hc4 (by omega)) ?_
 refine omv ?_
 refine ov vex ?_
 refine ov vex ?_
 unfold stV
 refine oal [(1, [.int .i64 0]), (1, [.int .i64 0]), (1, [.int .i64 0]), (1, [.int .i64 0]), (32, List.replicate 32 (.int .u8 0)), (32, List.replicate 32 (.int .u8 0))] (fun b3 => ?_)
 refine osta 68 ?_
 refine oas ?_
 refine nx ?_
 refine omv ?_
 refine ov (v2 V_eql) ?_
 refine cpan rfl (fun w hp => must_no _ (decide_eq_false h4) w) ?_
 repeat refine WQ.then_panic ?_
 refine WQ.panicB ?_
 intro w' hp; exact ⟨rfl, hp.forget⟩

theorem of_right (l0 l1 l2 l3 l4 : List Int) (A : Option Addr) (n cap : Nat) (w : World) (hr : Rows w A n [l0, l1, l2, l3, l4]) (hm : l4.length ≤ 1000000) (h : l0.length = 4 ∧ l1.length = 1 ∧ l3.length = 32) (h4 : readE l4 = 0) (h5 : rB (repR none 0 l0 l1 l2 l3 l4) = false) :
    Calls Try.prog 83 [.slice A n cap].toArray w fun e w' => e = .panicked form17 ∧ HP w w' [] [] := by
 obtain ⟨hlen, hn, vs, hvs, hrow⟩ := hr.open
 simp only [List.length_cons, List.length_nil] at hlen
 obtain rfl : n = 5 := by omega
 obtain ⟨v0, hv0, B0, q0, c0, rfl, hc0, hs0, hb0⟩ := hrow 0 l0 rfl
 have hq0 := SrW.ilen hs0
 obtain ⟨v1, hv1, B1, q1, c1, rfl, hc1, hs1, hb1⟩ := hrow 1 l1 rfl
 have hq1 := SrW.ilen hs1
 obtain ⟨v2, hv2, B2, q2, c2, rfl, hc2, hs2, hb2⟩ := hrow 2 l2 rfl
 have hq2 := SrW.ilen hs2
 obtain ⟨v3, hv3, B3, q3, c3, rfl, hc3, hs3, hb3⟩ := hrow 3 l3 rfl
 have hq3 := SrW.ilen hs3
 obtain ⟨v4, hv4, B4, q4, c4, rfl, hc4, hs4, hb4⟩ := hrow 4 l4 rfl
 have hq4 := SrW.ilen hs4
 subst hq2
 have htk : l3.take 32 = l3 := List.take_of_length_le (by omega)
 obtain ⟨bb1, oo1, rfl⟩ := hs1.hasN (by omega)
 obtain ⟨bb3, oo3, rfl⟩ := hs3.hasN (by omega)
 have hB : RepOK (repR B2 c2 l0 l1 l2 l3 l4) := ⟨h.2.2, hb3, readF_c, readF_cb hb4, readF_t, readF_tb hb4, hb2, by show l2.length ≤ c2; omega⟩
 have h4b := numH_bd4 hb0 (by omega)
 have g5 := hb1.get 0
 refine calls_of_W Try.func83 rfl Try.ntmps83 rfl rfl (HP.refl w []) ?_
 refine sr ?_
 refine oal [(1, [.int .i64 0]), (1, [.int .i64 0]), (1, [.slice none 0 0]), (32, List.replicate 32 (.int .u8 0)), (1, [.int .i64 0]), (1, [.int .i64 0]), (1, [.int .i64 0]), (1, [.int .i64 0]), (32, List.replicate 32 (.int .u8 0)), (32, List.replicate 32 (.int .u8 0))] (fun b2 => ?_)
 refine nx ?_
 refine omv ?_
 refine ov vlenS ?_
 refine ov (v2 V_eql) ?_
 refine omv ?_
 refine oy rfl (decide_eq_true (by omega)) ?_
 refine omv ?_
 obtain ⟨bbA, ooA, rfl⟩ := hvs.hasN sc
 refine oy rfl (decide_eq_true (by omega)) ?_
 refine ov (viS1 (j := 0)) ?_
 refine oy rfl (decide_eq_true (by omega)) ?_
 refine ov (vldV 0) ?_
 refine oy rfl (decide_eq_true (by omega)) ?_
 refine ov vlenS ?_
 refine oy rfl (decide_eq_true (by omega)) ?_
 refine ov (v2 V_eql) ?_
 refine ov (V_pick_t rfl (decide_eq_true (by omega)) rfl) ?_
 refine omv ?_
 refine oy rfl (decide_eq_true (by omega)) ?_
 refine omv ?_
 refine oy rfl (decide_eq_true (by omega)) ?_
 refine ov (viS1 (j := 1)) ?_
 refine oy rfl (decide_eq_true (by omega)) ?_
 refine ov (vldV 1) ?_
 refine oy rfl (decide_eq_true (by omega)) ?_
 refine ov vlenS ?_
 refine oy rfl (decide_eq_true (by omega)) ?_
 refine ov (v2 V_eql) ?_
 refine ov (V_pick_t rfl (decide_eq_true (by omega)) rfl) ?_
 refine omv ?_
 refine oy rfl (decide_eq_true (by omega)) ?_
 refine omv ?_
 refine oy rfl (decide_eq_true (by omega)) ?_
 refine ov (viS1 (j := 3)) ?_
 refine oy rfl (decide_eq_true (by omega)) ?_
 refine ov (vldV 3) ?_
 refine oy rfl (decide_eq_true (by omega)) ?_
 refine ov vlenS ?_
 refine oy rfl (decide_eq_true (by omega)) ?_
 refine ov (v2 V_eql) ?_
 refine ov (V_pick_t rfl (decide_eq_true (by omega)) rfl) ?_
 refine cp rfl (fun w hp => must_yes _ (by first | rfl | exact decide_eq_true (by omega) | (simp [*]; done)) w) ?_
 refine nx ?_
 refine omv ?_
 refine ov (viS1 (j := 4)) ?_
 refine ov (vldV 4) ?_
 refine cp rfl (fun w hp => sread_calls _ _ _ l4 w sw hb4 hc4 (by omega)) ?_
 refine omv ?_
 refine ov vex ?_
 refine ov vex ?_
 unfold stV
 refine oal [(1, [.int .i64 0]), (1, [.int .i64 0]), (1, [.int .i64 0]), (1, [.int .i64 0]), (32, List.replicate 32 (.int .u8 0)), (32, List.replicate 32 (.int .u8 0))] (fun b3 => ?_)
 refine osta 68 ?_
 refine oas ?_
 refine nx ?_
 refine omv ?_
 refine ov (v2 V_eql) ?_
 refine cp rfl (fun w hp => must_yes _ (decide_eq_true h4) w) ?_
 refine nq ?_
 refine W.seq ?_
 refine dr (.q 0 (.q 1 (.q 2 (.q 5 (.q 6 (.q 7 (.q 8 (.q 9 (.q 10 (.q 11 (.q 12 (.q 13 (.q 14 (.q 15 (.q 16 (.q 17 (.q 18 (.q 19 (.l 3 (.q 4 (.q 20 (.l 21 (.done))))))))))))))))))))))) [(b3, _)] ?_
 refine dq rfl (V_move rfl) ?_
 refine dq rfl (viS1 (j := 0)) ?_
 refine dq rfl (vldV 0) ?_
 refine dq rfl (V_move rfl) ?_
 refine dq rfl (viS1 (j := 1)) ?_
 refine dq rfl (vldV 1) ?_
 refine dq rfl (viS1 (j := 0)) ?_
 refine dq rfl (vldS 0 (hs := hs1)) ?_
 first | refine dq rfl (vcvN .i64) ?_ | refine dq rfl (vcv .i64) ?_
 refine dq rfl (V_move rfl) ?_
 refine dq rfl (viS1 (j := 2)) ?_
 refine dq rfl (vldV 2) ?_
 refine dq rfl (V_move rfl) ?_
 refine dq rfl (viS1 (j := 3)) ?_
 refine dq rfl (vldV 3) ?_
 refine dq rfl (vs2p 32) ?_
 refine dq rfl (vldAS 32) ?_
 refine dq rfl (vlda 68) ?_
 refine WD.l ?_
 refine dcp rfl rfl (fun w hp => ofHigh_calls _ _ _ _ w sw sc sc sc) ?_
 first | refine dq rfl (vcvN .i64) ?_ | refine dq rfl (vcv .i64) ?_
 refine dq rfl (V_build (by kernel_rfl) (zi (zs := [(1, [.int .i64 0]), (1, [.int .i64 0]), (1, [.slice none 0 0]), (32, List.replicate 32 (.int .u8 0)), (1, [.int .i64 0]), (1, [.int .i64 0]), (1, [.int .i64 0]), (1, [.int .i64 0]), (32, List.replicate 32 (.int .u8 0)), (32, List.replicate 32 (.int .u8 0))])) (.one (k := 0) rfl rfl (by kernel_rfl) rfl (.one (k := 1) rfl rfl (by kernel_rfl) rfl (.one (k := 2) rfl rfl (by kernel_rfl) rfl (.agg (k := 3) (n := 32) rfl fit fln (by kernel_rfl) rfl (.agg (k := 35) (n := 68) rfl fit fln (by kernel_rfl) rfl (.nil _))))))) ?_
 refine WD.l ?_
 refine dsta rfl 103 ?_
 refine WD.done ?_
 refine WQ.then ?_
 refine W.seq ?_
 simp only [htk]
 refine W.region ?_
 refine ov (vlda 103) ?_
 refine cp rfl (fun w hp => repright_calls (repR B2 c2 l0 l1 l2 l3 l4) hB w) ?_
 refine cpan rfl (fun w hp => must_no _ h5 w) ?_
 repeat refine WQ.then_panic ?_
 refine WQ.panicB ?_
 intro w' hp; exact ⟨rfl, hp.forget⟩

theorem of_ok (l0 l1 l2 l3 l4 : List Int) (A : Option Addr) (n cap : Nat) (w : World) (vs : List Value) (hvs : SrW w 1 A n vs) (hrl : RowsL w vs [l0, l1, l2, l3, l4]) (hm : l4.length ≤ 1000000) (B : Option Addr) (c : Nat) (hv : vs[2]? = some (.slice B l2.length c)) (h : l0.length = 4 ∧ l1.length = 1 ∧ l3.length = 32) (h4 : readE l4 = 0) (h5 : rB (repR none 0 l0 l1 l2 l3 l4) = true) :
    Calls Try.prog 83 [.slice A n cap].toArray w fun e w' => e = .returned (AG (repR B c l0 l1 l2 l3 l4).V) ∧ HP w w' [] [] := by
 have hrow : ∀ (i : Nat) (l : List Int), [l0, l1, l2, l3, l4][i]? = some l → ∃ v, vs[i]? = some v ∧ RowOf w v l := fun i l hl => RowsL.get hrl hl
 have hlen := RowsL.len hrl
 have hvl := hvs.len
 simp only [List.length_cons, List.length_nil] at hlen
 obtain rfl : n = 5 := by omega
 obtain ⟨v0, hv0, B0, q0, c0, rfl, hc0, hs0, hb0⟩ := hrow 0 l0 rfl
 have hq0 := SrW.ilen hs0
 obtain ⟨v1, hv1, B1, q1, c1, rfl, hc1, hs1, hb1⟩ := hrow 1 l1 rfl
 have hq1 := SrW.ilen hs1
 obtain ⟨v2, hv2, B2, q2, c2, rfl, hc2, hs2, hb2⟩ := hrow 2 l2 rfl
 have hq2 := SrW.ilen hs2
 obtain ⟨v3, hv3, B3, q3, c3, rfl, hc3, hs3, hb3⟩ := hrow 3 l3 rfl
 have hq3 := SrW.ilen hs3
 obtain ⟨v4, hv4, B4, q4, c4, rfl, hc4, hs4, hb4⟩ := hrow 4 l4 rfl
 have hq4 := SrW.ilen hs4
 rw [hv] at hv2; injection hv2 with hv2; injection hv2 with e1 e2 e3; subst e1; subst e3
 subst e2
 have htk : l3.take 32 = l3 := List.take_of_length_le (by omega)
 obtain ⟨bb1, oo1, rfl⟩ := hs1.hasN (by omega)
 obtain ⟨bb3, oo3, rfl⟩ := hs3.hasN (by omega)
 have hB : RepOK (repR B c l0 l1 l2 l3 l4) := ⟨h.2.2, hb3, readF_c, readF_cb hb4, readF_t, readF_tb hb4, hb2, by show l2.length ≤ c; omega⟩
 have h4b := numH_bd4 hb0 (by omega)
 have g5 := hb1.get 0
 refine calls_of_W Try.func83 rfl Try.ntmps83 rfl rfl (HP.refl w []) ?_
 refine sr ?_
 refine oal [(1, [.int .i64 0]), (1, [.int .i64 0]), (1, [.slice none 0 0]), (32, List.replicate 32 (.int .u8 0)), (1, [.int .i64 0]), (1, [.int .i64 0]), (1, [.int .i64 0]), (1, [.int .i64 0]), (32, List.replicate 32 (.int .u8 0)), (32, List.replicate 32 (.int .u8 0))] (fun b2 => ?_)
 refine nx ?_
 refine omv ?_
 refine ov vlenS ?_
 refine ov (v2 V_eql) ?_
 refine omv ?_
 refine oy rfl (decide_eq_true (by omega)) ?_
 refine omv ?_
 obtain ⟨bbA, ooA, rfl⟩ := hvs.hasN sc
 refine oy rfl (decide_eq_true (by omega)) ?_
 refine ov (viS1 (j := 0)) ?_
 refine oy rfl (decide_eq_true (by omega)) ?_
 refine ov (vldV 0) ?_
 refine oy rfl (decide_eq_true (by omega)) ?_
 refine ov vlenS ?_
 refine oy rfl (decide_eq_true (by omega)) ?_
 refine ov (v2 V_eql) ?_
 refine ov (V_pick_t rfl (decide_eq_true (by omega)) rfl) ?_
 refine omv ?_
 refine oy rfl (decide_eq_true (by omega)) ?_
 refine omv ?_
 refine oy rfl (decide_eq_true (by omega)) ?_
 refine ov (viS1 (j := 1)) ?_
 refine oy rfl (decide_eq_true (by omega)) ?_
 refine ov (vldV 1) ?_
 refine oy rfl (decide_eq_true (by omega)) ?_
 refine ov vlenS ?_
 refine oy rfl (decide_eq_true (by omega)) ?_
 refine ov (v2 V_eql) ?_
 refine ov (V_pick_t rfl (decide_eq_true (by omega)) rfl) ?_
 refine omv ?_
 refine oy rfl (decide_eq_true (by omega)) ?_
 refine omv ?_
 refine oy rfl (decide_eq_true (by omega)) ?_
 refine ov (viS1 (j := 3)) ?_
 refine oy rfl (decide_eq_true (by omega)) ?_
 refine ov (vldV 3) ?_
 refine oy rfl (decide_eq_true (by omega)) ?_
 refine ov vlenS ?_
 refine oy rfl (decide_eq_true (by omega)) ?_
 refine ov (v2 V_eql) ?_
 refine ov (V_pick_t rfl (decide_eq_true (by omega)) rfl) ?_
 refine cp rfl (fun w hp => must_yes _ (by first | rfl | exact decide_eq_true (by omega) | (simp [*]; done)) w) ?_
 refine nx ?_
 refine omv ?_
 refine ov (viS1 (j := 4)) ?_
 refine ov (vldV 4) ?_
 refine cp rfl (fun w hp => sread_calls _ _ _ l4 w sw hb4 hc4 (by omega)) ?_
 refine omv ?_
 refine ov vex ?_
 refine ov vex ?_
 unfold stV
 refine oal [(1, [.int .i64 0]), (1, [.int .i64 0]), (1, [.int .i64 0]), (1, [.int .i64 0]), (32, List.replicate 32 (.int .u8 0)), (32, List.replicate 32 (.int .u8 0))] (fun b3 => ?_)
 refine osta 68 ?_
 refine oas ?_
 refine nx ?_
 refine omv ?_
 refine ov (v2 V_eql) ?_
 refine cp rfl (fun w hp => must_yes _ (decide_eq_true h4) w) ?_
 refine nq ?_
 refine W.seq ?_
 refine dr (.q 0 (.q 1 (.q 2 (.q 5 (.q 6 (.q 7 (.q 8 (.q 9 (.q 10 (.q 11 (.q 12 (.q 13 (.q 14 (.q 15 (.q 16 (.q 17 (.q 18 (.q 19 (.l 3 (.q 4 (.q 20 (.l 21 (.done))))))))))))))))))))))) [(b3, _)] ?_
 refine dq rfl (V_move rfl) ?_
 refine dq rfl (viS1 (j := 0)) ?_
 refine dq rfl (vldV 0) ?_
 refine dq rfl (V_move rfl) ?_
 refine dq rfl (viS1 (j := 1)) ?_
 refine dq rfl (vldV 1) ?_
 refine dq rfl (viS1 (j := 0)) ?_
 refine dq rfl (vldS 0 (hs := hs1)) ?_
 first | refine dq rfl (vcvN .i64) ?_ | refine dq rfl (vcv .i64) ?_
 refine dq rfl (V_move rfl) ?_
 refine dq rfl (viS1 (j := 2)) ?_
 have hv2 := hv
 refine dq rfl (vldV 2) ?_
 refine dq rfl (V_move rfl) ?_
 refine dq rfl (viS1 (j := 3)) ?_
 refine dq rfl (vldV 3) ?_
 refine dq rfl (vs2p 32) ?_
 refine dq rfl (vldAS 32) ?_
 refine dq rfl (vlda 68) ?_
 refine WD.l ?_
 refine dcp rfl rfl (fun w hp => ofHigh_calls _ _ _ _ w sw sc sc sc) ?_
 first | refine dq rfl (vcvN .i64) ?_ | refine dq rfl (vcv .i64) ?_
 refine dq rfl (V_build (by kernel_rfl) (zi (zs := [(1, [.int .i64 0]), (1, [.int .i64 0]), (1, [.slice none 0 0]), (32, List.replicate 32 (.int .u8 0)), (1, [.int .i64 0]), (1, [.int .i64 0]), (1, [.int .i64 0]), (1, [.int .i64 0]), (32, List.replicate 32 (.int .u8 0)), (32, List.replicate 32 (.int .u8 0))])) (.one (k := 0) rfl rfl (by kernel_rfl) rfl (.one (k := 1) rfl rfl (by kernel_rfl) rfl (.one (k := 2) rfl rfl (by kernel_rfl) rfl (.agg (k := 3) (n := 32) rfl fit fln (by kernel_rfl) rfl (.agg (k := 35) (n := 68) rfl fit fln (by kernel_rfl) rfl (.nil _))))))) ?_
 refine WD.l ?_
 refine dsta rfl 103 ?_
 refine WD.done ?_
 refine WQ.then ?_
 refine W.seq ?_
 simp only [htk]
 refine W.region ?_
 refine ov (vlda 103) ?_
 refine cp rfl (fun w hp => repright_calls (repR B c l0 l1 l2 l3 l4) hB w) ?_
 refine cp rfl (fun w hp => must_yes _ h5 w) ?_
 refine nx ?_
 refine ov (vlda 103) ?_
 refine osta 103 ?_
 refine nq ?_
 refine W.ret ?_
 refine WQ.ret1 Try.results83 (.cellA 103 (by kernel_rfl) rfl at_ (by rfl)) ?_
 intro w' hp; exact ⟨rfl, hp.forget⟩

end Go.Proofs.Ytbalnjejamigaaa