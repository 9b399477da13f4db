/- Reports out of rows. -/
import Derived.Test.YtmeckbjinmgbbaaGreatMra
import Derived.Test.YtmeckbjinmgbbaaGreatXB
set_option linter.unusedVariables false
set_option linter.unusedSimpArgs false

namespace Go.Proofs.YtmeckbjinmgbbaaGreat
open Go.X
def form17 : List PanicEntry := [{ v := .iface 26 (.int .i64 2), recovered := false }]

theorem must_ok (w : World) : Calls Tryz.prog 104 [.bool true].toArray w fun e w' => e = .returned (.tuple #[]) ∧ HP w w' [] [] := by
 refine calls_of_W Tryz.func104 rfl Tryz.ntmps104 rfl rfl (HP.refl w []) ?_
 refine sr ?_
 refine omv ?_
 refine ov vnot ?_
 refine nq ?_
 refine W.cond_false rfl rfl ?_
 refine W.skip ?_
 refine WQ.ret0 (.inr rfl) Tryz.results104 ?_
 intro w' hp; exact ⟨rfl, hp.forget⟩

theorem must_bad (w : World) : Calls Tryz.prog 104 [.bool false].toArray w fun e w' => e = .panicked form17 ∧ HP w w' [] [] := by
 refine calls_of_W Tryz.func104 rfl Tryz.ntmps104 rfl rfl (HP.refl w []) ?_
 refine sr ?_
 refine omv ?_
 refine ov vnot ?_
 refine nq ?_
 refine W.cond_true rfl rfl ?_
 refine W.region ?_
 refine ov V_mkI ?_
 refine opan ?_
 repeat refine WQ.then_panic ?_
 refine WQ.panicB ?_
 intro w' hp; exact ⟨rfl, hp.forget⟩

theorem must_yes (b : Bool) (h : b = true) (w : World) : Calls Tryz.prog 104 [.bool b].toArray w fun e w' => e = .returned (.tuple #[]) ∧ HP w w' [] [] := by subst h; exact must_ok w
theorem must_no (b : Bool) (h : b = false) (w : World) : Calls Tryz.prog 104 [.bool b].toArray w fun e w' => e = .panicked form17 ∧ HP w w' [] [] := by subst h; exact must_bad w
def repR (B : Option Addr) (c : Nat) (l0 l1 l2 l3 l4 : List Int) : RepS := ⟨numH (l0.take 8), l1.getD 0 0, B, l2.length, c, l2, l3, readF l4⟩

theorem of_len (A : Option Addr) (n cap : Nat) (ll : List (List Int)) (w : World) (hr : Rows w A n ll) (h5 : ll.length ≠ 5) :
    Calls Tryz.prog 66 [.slice A n cap].toArray w fun e w' => e = .panicked form17 ∧ HP w w' [] [] := by
 obtain ⟨hlen, hn, vs, hvs, hrow⟩ := hr.open
 refine calls_of_W Tryz.func66 rfl Tryz.ntmps66 rfl rfl (HP.refl w []) ?_
 refine sr ?_
 refine oal [(1, [.int .i64 0]), (1, [.int .i64 0]), (1, [.slice none 0 0]), (32, List.replicate 32 (.int .u8 0)), (1, [.int .i64 0]), (1, [.int .i64 0]), (1, [.int .i64 0]), (1, [.int .i64 0]), (32, List.replicate 32 (.int .u8 0)), (32, List.replicate 32 (.int .u8 0))] (fun b2 => ?_)
 refine nx ?_
 refine omv ?_
 refine ov vlenS ?_
 refine ov (v2 V_eql) ?_
 refine omv ?_
 refine on rfl (decide_eq_false (by omega)) ?_
 refine on rfl (decide_eq_false (by omega)) ?_
 refine on rfl (decide_eq_false (by omega)) ?_
 refine on rfl (decide_eq_false (by omega)) ?_
 refine on rfl (decide_eq_false (by omega)) ?_
 refine ov (V_pick_f rfl (decide_eq_false (by omega)) rfl) ?_
 refine omv ?_
 refine on rfl rfl ?_
 refine on rfl rfl ?_
 refine on rfl rfl ?_
 refine on rfl rfl ?_
 refine on rfl rfl ?_
 refine ov (V_pick_f rfl rfl rfl) ?_
 refine omv ?_
 refine on rfl rfl ?_
 refine on rfl rfl ?_
 refine on rfl rfl ?_
 refine on rfl rfl ?_
 refine on rfl rfl ?_
 refine ov (V_pick_f rfl rfl rfl) ?_
 refine cpan rfl (fun w hp => must_no _ (by first | rfl | exact decide_eq_false (by omega) | (simp [*]; done)) w) ?_
 repeat refine WQ.then_panic ?_
 refine WQ.panicB ?_
 intro w' hp; exact ⟨rfl, hp.forget⟩

theorem of_shape (l0 l1 l2 l3 l4 : List Int) (A : Option Addr) (n cap : Nat) (w : World) (hr : Rows w A n [l0, l1, l2, l3, l4]) (hm : l4.length ≤ 1000000) (h : ¬ (l0.length = 4 ∧ l1.length = 1 ∧ l3.length = 32)) :
    Calls Tryz.prog 66 [.slice A n cap].toArray w fun e w' => e = .panicked form17 ∧ HP w w' [] [] := by
 obtain ⟨hlen, hn, vs, hvs, hrow⟩ := hr.open
 simp only [List.length_cons, List.length_nil] at hlen
 obtain rfl : n = 5 := by omega
 obtain ⟨v0, hv0, B0, q0, c0, rfl, hc0, hs0, hb0⟩ := hrow 0 l0 rfl
 have hq0 := SrW.ilen hs0
 obtain ⟨v1, hv1, B1, q1, c1, rfl, hc1, hs1, hb1⟩ := hrow 1 l1 rfl
 have hq1 := SrW.ilen hs1
 obtain ⟨v2, hv2, B2, q2, c2, rfl, hc2, hs2, hb2⟩ := hrow 2 l2 rfl
 have hq2 := SrW.ilen hs2
 obtain ⟨v3, hv3, B3, q3, c3, rfl, hc3, hs3, hb3⟩ := hrow 3 l3 rfl
 have hq3 := SrW.ilen hs3
 obtain ⟨v4, hv4, B4, q4, c4, rfl, hc4, hs4, hb4⟩ := hrow 4 l4 rfl
 have hq4 := SrW.ilen hs4
 refine calls_of_W Tryz.func66 rfl Tryz.ntmps66 rfl rfl (HP.refl w []) ?_
 refine sr ?_
 refine oal [(1, [.int .i64 0]), (1, [.int .i64 0]), (1, [.slice none 0 0]), (32, List.replicate 32 (.int .u8 0)), (1, [.int .i64 0]), (1, [.int .i64 0]), (1, [.int .i64 0]), (1, [.int .i64 0]), (32, List.replicate 32 (.int .u8 0)), (32, List.replicate 32 (.int .u8 0))] (fun b2 => ?_)
 refine nx ?_
 refine omv ?_
 refine ov vlenS ?_
 refine ov (v2 V_eql) ?_
 refine omv ?_
 refine oy rfl (decide_eq_true (by omega)) ?_
 refine omv ?_
 obtain ⟨bbA, ooA, rfl⟩ := hvs.hasN sc
 refine oy rfl (decide_eq_true (by omega)) ?_
 refine ov (viS1 (j := 0)) ?_
 refine oy rfl (decide_eq_true (by omega)) ?_
 refine ov (vldV 0) ?_
 refine oy rfl (decide_eq_true (by omega)) ?_
 refine ov vlenS ?_
 refine oy rfl (decide_eq_true (by omega)) ?_
 refine ov (v2 V_eql) ?_
 refine ov (V_pick_t rfl (decide_eq_true (by omega)) rfl) ?_
 refine omv ?_
 refine WL.splitD rfl (fun g1 => ?_) (fun g1 => ?_)
 · refine oy rfl (decide_eq_true g1) ?_
   refine omv ?_
   refine oy rfl (decide_eq_true g1) ?_
   refine ov (viS1 (j := 1)) ?_
   refine oy rfl (decide_eq_true g1) ?_
   refine ov (vldV 1) ?_
   refine oy rfl (decide_eq_true g1) ?_
   refine ov vlenS ?_
   refine oy rfl (decide_eq_true g1) ?_
   refine ov (v2 V_eql) ?_
   refine ov (V_pick_td rfl g1 rfl) ?_
   refine omv ?_
   refine WL.splitD rfl (fun g2 => ?_) (fun g2 => ?_)
   · refine oy rfl (decide_eq_true g2) ?_
     refine omv ?_
     refine oy rfl (decide_eq_true g2) ?_
     refine ov (viS1 (j := 3)) ?_
     refine oy rfl (decide_eq_true g2) ?_
     refine ov (vldV 3) ?_
     refine oy rfl (decide_eq_true g2) ?_
     refine ov vlenS ?_
     refine oy rfl (decide_eq_true g2) ?_
     refine ov (v2 V_eql) ?_
     refine ov (V_pick_td rfl g2 rfl) ?_
     refine cpan rfl (fun w hp => must_no _ (by first | rfl | exact decide_eq_false (by omega) | (simp [*]; done)) w) ?_
     repeat refine WQ.then_panic ?_
     refine WQ.panicB ?_
     intro w' hp; exact ⟨rfl, hp.forget⟩
   · refine on rfl (decide_eq_false g2) ?_
     refine on rfl (decide_eq_false g2) ?_
     refine on rfl (decide_eq_false g2) ?_
     refine on rfl (decide_eq_false g2) ?_
     refine on rfl (decide_eq_false g2) ?_
     refine ov (V_pick_fd rfl g2 rfl) ?_
     refine cpan rfl (fun w hp => must_no _ (by first | rfl | exact decide_eq_false (by omega) | (simp [*]; done)) w) ?_
     repeat refine WQ.then_panic ?_
     refine WQ.panicB ?_
     intro w' hp; exact ⟨rfl, hp.forget⟩
 · refine on rfl (decide_eq_false g1) ?_
   refine on rfl (decide_eq_false g1) ?_
   refine on rfl (decide_eq_false g1) ?_
   refine on rfl (decide_eq_false g1) ?_
   refine on rfl (decide_eq_false g1) ?_
   refine ov (V_pick_fd rfl g1 rfl) ?_
   refine omv ?_
   refine on rfl rfl ?_
   refine on rfl rfl ?_
   refine on rfl rfl ?_
   refine on rfl rfl ?_
   refine on rfl rfl ?_
   refine ov (V_pick_f rfl rfl rfl) ?_
   refine cpan rfl (fun w hp => must_no _ (by first | rfl | exact decide_eq_false (by omega) | (simp [*]; done)) w) ?_
   repeat refine WQ.then_panic ?_
   refine WQ.panicB ?_
   intro w' hp; exact ⟨rfl, hp.forget⟩

theorem of_read (l0 l1 l2 l3 l4 : List Int) (A : Option Addr) (n cap : Nat) (w : World) (hr : Rows w A n [l0, l1, l2, l3, l4]) (hm : l4.length ≤ 1000000) (h : l0.length = 4 ∧ l1.length = 1 ∧ l3.length = 32) (h4 : readE l4 ≠ 0) :
    Calls Tryz.prog 66 [.slice A n cap].toArray w fun e w' => e = .panicked form17 ∧ HP w w' [] [] := by
 obtain ⟨hlen, hn, vs, hvs, hrow⟩ := hr.open
 simp only [List.length_cons, List.length_nil] at hlen
 obtain rfl : n = 5 := by omega
 obtain ⟨v0, hv0, B0, q0, c0, rfl, hc0, hs0, hb0⟩ := hrow 0 l0 rfl
 have hq0 := SrW.ilen hs0
 obtain ⟨v1, hv1, B1, q1, c1, rfl, hc1, hs1, hb1⟩ := hrow 1 l1 rfl
 have hq1 := SrW.ilen hs1
 obtain ⟨v2, hv2, B2, q2, c2, rfl, hc2, hs2, hb2⟩ := hrow 2 l2 rfl
 have hq2 := SrW.ilen hs2
 obtain ⟨v3, hv3, B3, q3, c3, rfl, hc3, hs3, hb3⟩ := hrow 3 l3 rfl
 have hq3 := SrW.ilen hs3
 obtain ⟨v4, hv4, B4, q4, c4, rfl, hc4, hs4, hb4⟩ := hrow 4 l4 rfl
 have hq4 := SrW.ilen hs4
 refine calls_of_W Tryz.func66 rfl Tryz.ntmps66 rfl rfl (HP.refl w []) ?_
 refine sr ?_
 refine oal [(1, [.int .i64 0]), (1, [.int .i64 0]), (1, [.slice none 0 0]), (32, List.replicate 32 (.int .u8 0)), (1, [.int .i64 0]), (1, [.int .i64 0]), (1, [.int .i64 0]), (1, [.int .i64 0]), (32, List.replicate 32 (.int .u8 0)), (32, List.replicate 32 (.int .u8 0))] (fun b2 => ?_)
 refine nx ?_
 refine omv ?_
 refine ov vlenS ?_
 refine ov (v2 V_eql) ?_
 refine omv ?_
 refine oy rfl (decide_eq_true (by omega)) ?_
 refine omv ?_
 obtain ⟨bbA, ooA, rfl⟩ := hvs.hasN sc
 refine oy rfl (decide_eq_true (by omega)) ?_
 refine ov (viS1 (j := 0)) ?_
 refine oy rfl (decide_eq_true (by omega)) ?_
 refine ov (vldV 0) ?_
 refine oy rfl (decide_eq_true (by omega)) ?_
 refine ov vlenS ?_
 refine oy rfl (decide_eq_true (by omega)) ?_
 refine ov (v2 V_eql) ?_
 refine ov (V_pick_t rfl (decide_eq_true (by omega)) rfl) ?_
 refine omv ?_
 refine oy rfl (decide_eq_true (by omega)) ?_
 refine omv ?_
 refine oy rfl (decide_eq_true (by omega)) ?_
 refine ov (viS1 (j := 1)) ?_
 refine oy rfl (decide_eq_true (by omega)) ?_
 refine ov (vldV 1) ?_
 refine oy rfl (decide_eq_true (by omega)) ?_
 refine ov vlenS ?_
 refine oy rfl (decide_eq_true (by omega)) ?_
 refine ov (v2 V_eql) ?_
 refine ov (V_pick_t rfl (decide_eq_true (by omega)) rfl) ?_
 refine omv ?_
 refine oy rfl (decide_eq_true (by omega)) ?_
 refine omv ?_
 refine oy rfl (decide_eq_true (by omega)) ?_
 refine ov (viS1 (j := 3)) ?_
 refine oy rfl (decide_eq_true (by omega)) ?_
 refine ov (vldV 3) ?_
 refine oy rfl (decide_eq_true (by omega)) ?_
 refine ov vlenS ?_
 refine oy rfl (decide_eq_true (by omega)) ?_
 refine ov (v2 V_eql) ?_
 refine ov (V_pick_t rfl (decide_eq_true (by omega)) rfl) ?_
 refine cp rfl (fun w hp => must_yes _ (by first | rfl | exact decide_eq_true (by omega) | (simp [*]; done)) w) ?_
 refine nx ?_
 refine omv ?_
 refine ov (viS1 (j := 4)) ?_
 refine ov (vldV 4) ?_
 refine cp rfl (fun w hp => sread_calls _ _ _ l4 w sw hb4 hc4 (by omega)) ?_
 refine omv ?_
 refine ov vex ?_
 refine ov vex ?_
 unfold stV
 refine oal [(1, [.int .i64 0]), (1, [.int .i64 0]), (1, [.int .i64 0]), (1, [.int .i64 0]), (32, List.replicate 32 (.int .u8 0)), (32, List.replicate 32 (.int .u8 0))] (fun b3 => ?_)
 refine osta 68 ?_
 refine oas ?_
 refine nx ?_
 refine omv ?_
 refine ov (v2 V_eql) ?_
 refine cpan rfl (fun w hp => must_no _ (decide_eq_false h4) w) ?_
 repeat refine WQ.then_panic ?_
 refine WQ.panicB ?_
 intro w' hp; exact ⟨rfl, hp.forget⟩

theorem of_right (l0 l1 l2 l3 l4 : List Int) (A : Option Addr) (n cap : Nat) (w : World) (hr : Rows w A n [l0, l1, l2, l3, l4]) (hm : l4.length ≤ 1000000) (h : l0.length = 4 ∧ l1.length = 1 ∧ l3.length = 32) (h4 : readE l4 = 0) (h5 : rB (repR none 0 l0 l1 l2 l3 l4) = false) :
    Calls Tryz.prog 66 [.slice A n cap].toArray w fun e w' => e = .panicked form17 ∧ HP w w' [] [] := by
 obtain ⟨hlen, hn, vs, hvs, hrow⟩ := hr.open
 simp only [List.length_cons, List.length_nil] at hlen
 obtain rfl : n = 5 := by omega
 obtain ⟨v0, hv0, B0, q0, c0, rfl, hc0, hs0, hb0⟩ := hrow 0 l0 rfl
 have hq0 := SrW.ilen hs0
 obtain ⟨v1, hv1, B1, q1, c1, rfl, hc1, hs1, hb1⟩ := hrow 1 l1 rfl
 have hq1 := SrW.ilen hs1
 obtain ⟨v2, hv2, B2, q2, c2, rfl, hc2, hs2, hb2⟩ := hrow 2 l2 rfl
 have hq2 := SrW.ilen hs2
 obtain ⟨v3, hv3, B3, q3, c3, rfl, hc3, hs3, hb3⟩ := hrow 3 l3 rfl
 have hq3 := SrW.ilen hs3
 obtain ⟨v4, hv4, B4, q4, c4, rfl, hc4, hs4, hb4⟩ := hrow 4 l4 rfl
 have hq4 := SrW.ilen hs4
 subst hq2
 have htk : l3.take 32 = l3 := List.take_of_length_le (by omega)
 obtain ⟨bb1, oo1, rfl⟩ := hs1.hasN (by omega)
 obtain ⟨bb3, oo3, rfl⟩ := hs3.hasN (by omega)
 have hB : RepOK (repR B2 c2 l0 l1 l2 l3 l4) := ⟨h.2.2, hb3, readF_c, readF_cb hb4, readF_t, readF_tb hb4, hb2, by show l2.length ≤ c2; omega⟩
 have h4b := numH_bd4 hb0 (by omega)
 have g5 := hb1.get 0
 refine calls_of_W Tryz.func66 rfl Tryz.ntmps66 rfl rfl (HP.refl w []) ?_
 refine sr ?_
 refine oal [(1, [.int .i64 0]), (1, [.int .i64 0]), (1, [.slice none 0 0]), (32, List.replicate 32 (.int .u8 0)), (1, [.int .i64 0]), (1, [.int .i64 0]), (1, [.int .i64 0]), (1, [.int .i64 0]), (32, List.replicate 32 (.int .u8 0)), (32, List.replicate 32 (.int .u8 0))] (fun b2 => ?_)
 refine nx ?_
 refine omv ?_
 refine ov vlenS ?_
 refine ov (v2 V_eql) ?_
 refine omv ?_
 refine oy rfl (decide_eq_true (by omega)) ?_
 refine omv ?_
 obtain ⟨bbA, ooA, rfl⟩ := hvs.hasN sc
 refine oy rfl (decide_eq_true (by omega)) ?_
 refine ov (viS1 (j := 0)) ?_
 refine oy rfl (decide_eq_true (by omega)) ?_
 refine ov (vldV 0) ?_
 refine oy rfl (decide_eq_true (by omega)) ?_
 refine ov vlenS ?_
 refine oy rfl (decide_eq_true (by omega)) ?_
 refine ov (v2 V_eql) ?_
 refine ov (V_pick_t rfl (decide_eq_true (by omega)) rfl) ?_
 refine omv ?_
 refine oy rfl (decide_eq_true (by omega)) ?_
 refine omv ?_
 refine oy rfl (decide_eq_true (by omega)) ?_
 refine ov (viS1 (j := 1)) ?_
 refine oy rfl (decide_eq_true (by omega)) ?_
 refine ov (vldV 1) ?_
 refine oy rfl (decide_eq_true (by omega)) ?_
 refine ov vlenS ?_
 refine oy rfl (decide_eq_true (by omega)) ?_
 refine ov (v2 V_eql) ?_
 refine ov (V_pick_t rfl (decide_eq_true (by omega)) rfl) ?_
 refine omv ?_
 refine oy rfl (decide_eq_true (by omega)) ?_
 refine omv ?_
 refine oy rfl (decide_eq_true (by omega)) ?_
 refine ov (viS1 (j := 3)) ?_
 refine oy rfl (decide_eq_true (by omega)) ?_
 refine ov (vldV 3) ?_
 refine oy rfl (decide_eq_true (by omega)) ?_
 refine ov vlenS ?_
 refine oy rfl (decide_eq_true (by omega)) ?_
 refine ov (v2 V_eql) ?_
 refine ov (V_pick_t rfl (decide_eq_true (by omega)) rfl) ?_
 refine cp rfl (fun w hp => must_yes _ (by first | rfl | exact decide_eq_true (by omega) | (simp [*]; done)) w) ?_
 refine nx ?_
 refine omv ?_
 refine ov (viS1 (j := 4)) ?_
 refine ov (vldV 4) ?_
 refine cp rfl (fun w hp => sread_calls _ _ _ l4 w sw hb4 hc4 (by omega)) ?_
 refine omv ?_
 refine ov vex ?_
 refine ov vex ?_
 unfold stV
 refine oal [(1, [.int .i64 0]), (1, [.int .i64 0]), (1, [.int .i64 0]), (1, [.int .i64 0]), (32, List.replicate 32 (.int .u8 0)), (32, List.replicate 32 (.int .u8 0))] (fun b3 => ?_)
 refine osta 68 ?_
 refine oas ?_
 refine nx ?_
 refine omv ?_
 refine ov (v2 V_eql) ?_
 refine cp rfl (fun w hp => must_yes _ (decide_eq_true h4) w) ?_
 refine nq ?_
 refine W.seq ?_
 refine dr (.q 0 (.q 1 (.q 2 (.q 5 (.q 6 (.q 7 (.q 8 (.q 9 (.q 10 (.q 11 (.q 12 (.q 13 (.q 14 (.q 15 (.q 16 (.q 17 (.q 18 (.q 19 (.l 3 (.q 4 (.q 20 (.l 21 (.done))))))))))))))))))))))) [(b3, _)] ?_
 refine dq rfl (V_move rfl) ?_
 refine dq rfl (viS1 (j := 0)) ?_
 refine dq rfl (vldV 0) ?_
 refine dq rfl (V_move rfl) ?_
 refine dq rfl (viS1 (j := 1)) ?_
 refine dq rfl (vldV 1) ?_
 refine dq rfl (viS1 (j := 0)) ?_
 refine dq rfl (vldS 0 (hs := hs1)) ?_
 first | refine dq rfl (vcvN .i64) ?_ | refine dq rfl (vcv .i64) ?_
 refine dq rfl (V_move rfl) ?_
 refine dq rfl (viS1 (j := 2)) ?_
 refine dq rfl (vldV 2) ?_
 refine dq rfl (V_move rfl) ?_
 refine dq rfl (viS1 (j := 3)) ?_
 refine dq rfl (vldV 3) ?_
 refine dq rfl (vs2p 32) ?_
 refine dq rfl (vldAS 32) ?_
 refine dq rfl (vlda 68) ?_
 refine WD.l ?_
 refine dcp rfl rfl (fun w hp => ofHigh_calls _ _ _ _ w sw sc sc sc) ?_
 first | refine dq rfl (vcvN .i64) ?_ | refine dq rfl (vcv .i64) ?_
 refine dq rfl (V_build (by kernel_rfl) (zi (zs := [(1, [.int .i64 0]), (1, [.int .i64 0]), (1, [.slice none 0 0]), (32, List.replicate 32 (.int .u8 0)), (1, [.int .i64 0]), (1, [.int .i64 0]), (1, [.int .i64 0]), (1, [.int .i64 0]), (32, List.replicate 32 (.int .u8 0)), (32, List.replicate 32 (.int .u8 0))])) (.one (k := 0) rfl rfl (by kernel_rfl) rfl (.one (k := 1) rfl rfl (by kernel_rfl) rfl (.one (k := 2) rfl rfl (by kernel_rfl) rfl (.agg (k := 3) (n := 32) rfl fit fln (by kernel_rfl) rfl (.agg (k := 35) (n := 68) rfl fit fln (by kernel_rfl) rfl (.nil _))))))) ?_
 refine WD.l ?_
 refine dsta rfl 103 ?_
 refine WD.done ?_
 refine WQ.then ?_
 refine W.seq ?_
 simp only [htk]
 refine W.region ?_
 refine ov (vlda 103) ?_
 refine cp rfl (fun w hp => repright_calls (repR B2 c2 l0 l1 l2 l3 l4) hB w) ?_
 refine cpan rfl (fun w hp => must_no _ h5 w) ?_
 repeat refine WQ.then_panic ?_
 refine WQ.panicB ?_
 intro w' hp; exact ⟨rfl, hp.forget⟩

theorem of_ok (l0 l1 l2 l3 l4 : List Int) (A : Option Addr) (n cap : Nat) (w : World) (vs : List Value) (hvs : SrW w 1 A n vs) (hrl : RowsL w vs [l0, l1, l2, l3, l4]) (hm : l4.length ≤ 1000000) (B : Option Addr) (c : Nat) (hv : vs[2]? = some (.slice B l2.length c)) (h : l0.length = 4 ∧ l1.length = 1 ∧ l3.length = 32) (h4 : readE l4 = 0) (h5 : rB (repR none 0 l0 l1 l2 l3 l4) = true) :
    Calls Tryz.prog 66 [.slice A n cap].toArray w fun e w' => e = .returned (AG (repR B c l0 l1 l2 l3 l4).V) ∧ HP w w' [] [] := by
 have hrow : ∀ (i : Nat) (l : List Int), [l0, l1, l2, l3, l4][i]? = some l → ∃ v, vs[i]? = some v ∧ RowOf w v l := fun i l hl => RowsL.get hrl hl
 have hlen := RowsL.len hrl
 have hvl := hvs.len
 simp only [List.length_cons, List.length_nil] at hlen
 obtain rfl : n = 5 := by omega
 obtain ⟨v0, hv0, B0, q0, c0, rfl, hc0, hs0, hb0⟩ := hrow 0 l0 rfl
 have hq0 := SrW.ilen hs0
 obtain ⟨v1, hv1, B1, q1, c1, rfl, hc1, hs1, hb1⟩ := hrow 1 l1 rfl
 have hq1 := SrW.ilen hs1
 obtain ⟨v2, hv2, B2, q2, c2, rfl, hc2, hs2, hb2⟩ := hrow 2 l2 rfl
 have hq2 := SrW.ilen hs2
 obtain ⟨v3, hv3, B3, q3, c3, rfl, hc3, hs3, hb3⟩ := hrow 3 l3 rfl
 have hq3 := SrW.ilen hs3
 obtain ⟨v4, hv4, B4, q4, c4, rfl, hc4, hs4, hb4⟩ := hrow 4 l4 rfl
 have hq4 := SrW.ilen hs4
 rw [hv] at hv2; injection hv2 with hv2; injection hv2 with e1 e2 e3; subst e1; subst e3
 subst e2
 have htk : l3.take 32 = l3 := List.take_of_length_le (by omega)
 obtain ⟨bb1, oo1, rfl⟩ := hs1.hasN (by omega)
 obtain ⟨bb3, oo3, rfl⟩ := hs3.hasN (by omega)
 have hB : RepOK (repR B c l0 l1 l2 l3 l4) := ⟨h.2.2, hb3, readF_c, readF_cb hb4, readF_t, readF_tb hb4, hb2, by show l2.length ≤ c; omega⟩
 have h4b := numH_bd4 hb0 (by omega)
 have g5 := hb1.get 0
 refine calls_of_W Tryz.func66 rfl Tryz.ntmps66 rfl rfl (HP.refl w []) ?_
 refine sr ?_
 refine oal [(1, [.int .i64 0]), (1, [.int .i64 0]), (1, [.slice none 0 0]), (32, List.replicate 32 (.int .u8 0)), (1, [.int .i64 0]), (1, [.int .i64 0]), (1, [.int .i64 0]), (1, [.int .i64 0]), (32, List.replicate 32 (.int .u8 0)), (32, List.replicate 32 (.int .u8 0))] (fun b2 => ?_)
 refine nx ?_
 refine omv ?_
 refine ov vlenS ?_
 refine ov (v2 V_eql) ?_
 refine omv ?_
 refine oy rfl (decide_eq_true (by omega)) ?_
 refine omv ?_
 obtain ⟨bbA, ooA, rfl⟩ := hvs.hasN sc
 refine oy rfl (decide_eq_true (by omega)) ?_
 refine ov (viS1 (j := 0)) ?_
 refine oy rfl (decide_eq_true (by omega)) ?_
 refine ov (vldV 0) ?_
 refine oy rfl (decide_eq_true (by omega)) ?_
 refine ov vlenS ?_
 refine oy rfl (decide_eq_true (by omega)) ?_
 refine ov (v2 V_eql) ?_
 refine ov (V_pick_t rfl (decide_eq_true (by omega)) rfl) ?_
 refine omv ?_
 refine oy rfl (decide_eq_true (by omega)) ?_
 refine omv ?_
 refine oy rfl (decide_eq_true (by omega)) ?_
 refine ov (viS1 (j := 1)) ?_
 refine oy rfl (decide_eq_true (by omega)) ?_
 refine ov (vldV 1) ?_
 refine oy rfl (decide_eq_true (by omega)) ?_
 refine ov vlenS ?_
 refine oy rfl (decide_eq_true (by omega)) ?_
 refine ov (v2 V_eql) ?_
 refine ov (V_pick_t rfl (decide_eq_true (by omega)) rfl) ?_
 refine omv ?_
 refine oy rfl (decide_eq_true (by omega)) ?_
 refine omv ?_
 refine oy rfl (decide_eq_true (by omega)) ?_
 refine ov (viS1 (j := 3)) ?_
 refine oy rfl (decide_eq_true (by omega)) ?_
 refine ov (vldV 3) ?_
 refine oy rfl (decide_eq_true (by omega)) ?_
 refine ov vlenS ?_
 refine oy rfl (decide_eq_true (by omega)) ?_
 refine ov (v2 V_eql) ?_
 refine ov (V_pick_t rfl (decide_eq_true (by omega)) rfl) ?_
 refine cp rfl (fun w hp => must_yes _ (by first | rfl | exact decide_eq_true (by omega) | (simp [*]; done)) w) ?_
 refine nx ?_
 refine omv ?_
 refine ov (viS1 (j := 4)) ?_
 refine ov (vldV 4) ?_
 refine cp rfl (fun w hp => sread_calls _ _ _ l4 w sw hb4 hc4 (by omega)) ?_
 refine omv ?_
 refine ov vex ?_
 refine ov vex ?_
 unfold stV
 refine oal [(1, [.int .i64 0]), (1, [.int .i64 0]), (1, [.int .i64 0]), (1, [.int .i64 0]), (32, List.replicate 32 (.int .u8 0)), (32, List.replicate 32 (.int .u8 0))] (fun b3 => ?_)
 refine osta 68 ?_
 refine oas ?_
 refine nx ?_
 refine omv ?_
 refine ov (v2 V_eql) ?_
 refine cp rfl (fun w hp => must_yes _ (decide_eq_true h4) w) ?_
 refine nq ?_
 refine W.seq ?_
 refine dr (.q 0 (.q 1 (.q 2 (.q 5 (.q 6 (.q 7 (.q 8 (.q 9 (.q 10 (.q 11 (.q 12 (.q 13 (.q 14 (.q 15 (.q 16 (.q 17 (.q 18 (.q 19 (.l 3 (.q 4 (.q 20 (.l 21 (.done))))))))))))))))))))))) [(b3, _)] ?_
 refine dq rfl (V_move rfl) ?_
 refine dq rfl (viS1 (j := 0)) ?_
 refine dq rfl (vldV 0) ?_
 refine dq rfl (V_move rfl) ?_
 refine dq rfl (viS1 (j := 1)) ?_
 refine dq rfl (vldV 1) ?_
 refine dq rfl (viS1 (j := 0)) ?_
 refine dq rfl (vldS 0 (hs := hs1)) ?_
 first | refine dq rfl (vcvN .i64) ?_ | refine dq rfl (vcv .i64) ?_
 refine dq rfl (V_move rfl) ?_
 refine dq rfl (viS1 (j := 2)) ?_
 have hv2 := hv
 refine dq rfl (vldV 2) ?_
 refine dq rfl (V_move rfl) ?_
 refine dq rfl (viS1 (j := 3)) ?_
 refine dq rfl (vldV 3) ?_
 refine dq rfl (vs2p 32) ?_
 refine dq rfl (vldAS 32) ?_
 refine dq rfl (vlda 68) ?_
 refine WD.l ?_
 refine dcp rfl rfl (fun w hp => ofHigh_calls _ _ _ _ w sw sc sc sc) ?_
 first | refine dq rfl (vcvN .i64) ?_ | refine dq rfl (vcv .i64) ?_
 refine dq rfl (V_build (by kernel_rfl) (zi (zs := [(1, [.int .i64 0]), (1, [.int .i64 0]), (1, [.slice none 0 0]), (32, List.replicate 32 (.int .u8 0)), (1, [.int .i64 0]), (1, [.int .i64 0]), (1, [.int .i64 0]), (1, [.int .i64 0]), (32, List.replicate 32 (.int .u8 0)), (32, List.replicate 32 (.int .u8 0))])) (.one (k := 0) rfl rfl (by kernel_rfl) rfl (.one (k := 1) rfl rfl (by kernel_rfl) rfl (.one (k := 2) rfl rfl (by kernel_rfl) rfl (.agg (k := 3) (n := 32) rfl fit fln (by kernel_rfl) rfl (.agg (k := 35) (n := 68) rfl fit fln (by kernel_rfl) rfl (.nil _))))))) ?_
 refine WD.l ?_
 refine dsta rfl 103 ?_
 refine WD.done ?_
 refine WQ.then ?_
 refine W.seq ?_
 simp only [htk]
 refine W.region ?_
 refine ov (vlda 103) ?_
 refine cp rfl (fun w hp => repright_calls (repR B c l0 l1 l2 l3 l4) hB w) ?_
 refine cp rfl (fun w hp => must_yes _ h5 w) ?_
 refine nx ?_
 refine ov (vlda 103) ?_
 refine osta 103 ?_
 refine nq ?_
 refine W.ret ?_
 refine WQ.ret1 Tryz.results66 (.cellA 103 (by kernel_rfl) rfl at_ (by rfl)) ?_
 intro w' hp; exact ⟨rfl, hp.forget⟩

end Go.Proofs.YtmeckbjinmgbbaaGreat
/- report.Read: what is given up is recovered. -/
namespace Go.Proofs.YtmeckbjinmgbbaaGreat
open Go.X
set_option maxRecDepth 8000 in
theorem rec17_no (b2 b3 : Nat) (w : World) : CallsD Tryz.prog 65 [.pointer (some ⟨b2, 0, none⟩), .pointer (some ⟨b3, 0, none⟩)].toArray .returning w fun e u' w' => e = .returned (.tuple #[]) ∧ u' = .returning ∧ HP w w' [] [] := by
  refine callsD_of_WC Tryz.func65 rfl Tryz.ntmps65 rfl rfl (HP.refl w []) fun c₀ cs hu => ?_
  refine WC.seq ?_
  refine WC.region (l := [0, 1, 2, 3, 4, 5, 6]) (by kernel_rfl) ?_
  refine WS.rcn rfl (by simp [recoverD, hu]) ?_
  refine WS.val rfl (vtyN (z := .int .i64 0)) ?_
  refine WS.val rfl (V_move rfl) ?_
  refine WS.val rfl vex ?_
  refine WS.val rfl vex ?_
  refine WS.val rfl (V_assign rfl) ?_
  refine WS.val rfl (V_assign rfl) ?_
  refine WS.nil ?_
  refine WC.ofW ?_
  refine sr ?_
  refine omv ?_
  refine nq ?_
  refine W.cond_false rfl rfl ?_
  refine W.skip ?_
  exact WQ.retS (u' := .returning) (.inl rfl) (by kernel_rfl) (by rw [← hu]) fun w' hp => ⟨rfl, rfl, hp⟩
def zeroRep : List Seg := [(1, [.int .i64 0]), (1, [.int .i64 0]), (1, [.slice none 0 0]), (32, List.replicate 32 (.int .u8 0)), (1, [.int .i64 0]), (1, [.int .i64 0]), (1, [.int .i64 0]), (1, [.int .i64 0]), (32, List.replicate 32 (.int .u8 0)), (32, List.replicate 32 (.int .u8 0))]
set_option maxRecDepth 8000 in
theorem rec_yes (b2 b3 : Nat) (w : World) (h2 : (Blk.cells zeroRep 69).Is w.heap[b2]?) (h3 : (Blk.cells [(1, [.int .i64 0])] 26).Is w.heap[b3]?) (hne : b2 ≠ b3) :
    CallsD Tryz.prog 65 [.pointer (some ⟨b2, 0, none⟩), .pointer (some ⟨b3, 0, none⟩)].toArray (.panicking form17) w fun e u' w' => e = .returned (.tuple #[]) ∧ u' = .panicking [{ v := .iface 26 (.int .i64 2), recovered := true }] ∧ HP w w' [b2, b3] [(b2, .cells zeroRep 69), (b3, .cells [(1, [.int .i64 2])] 26)] := by
  refine callsD_of_WC Tryz.func65 rfl Tryz.ntmps65 rfl rfl (HP.start (O := [b2, b3]) (L := [(b2, .cells zeroRep 69), (b3, .cells [(1, [.int .i64 0])] 26)]) (by intro p hp; simp only [List.mem_cons, List.not_mem_nil, or_false] at hp; rcases hp with rfl | rfl; exact h2; exact h3) (by simp [hne]) (by simp [hne])) fun c₀ cs hu => ?_
  refine WC.seq ?_
  refine WC.region (l := [0, 1, 2, 3, 4, 5, 6]) (by kernel_rfl) ?_
  refine WS.rcv (v := .iface 26 (.int .i64 2)) (cs' := { c₀ with mode := .panicking [{ v := .iface 26 (.int .i64 2), recovered := true }] } :: cs) rfl (by simp only [recoverD, hu, form17]) ?_
  refine WS.val (v := .tuple #[.int .i64 2, .bool true]) rfl (vtyY (v := .int .i64 2)) ?_
  refine WS.val rfl (V_move rfl) ?_
  refine WS.val rfl vex ?_
  refine WS.val rfl vex ?_
  refine WS.val rfl (V_assign rfl) ?_
  refine WS.val rfl (V_assign rfl) ?_
  refine WS.nil ?_
  refine WC.ofW ?_
  refine sr ?_
  refine omv ?_
  refine nq ?_
  refine W.cond_true rfl rfl ?_
  refine W.region ?_
  refine ov (V_build (by kernel_rfl) (zi (zs := zeroRep)) (.nil _)) ?_
  refine omv ?_
  unfold zeroRep
  refine osta 103 ?_
  refine ost ?_
  refine WL.nil ?_
  exact WQ.retS (u' := .panicking [{ v := .iface 26 (.int .i64 2), recovered := true }]) (.inl rfl) (by kernel_rfl) rfl fun w' hp => ⟨rfl, rfl, hp.cov cov⟩
end Go.Proofs.YtmeckbjinmgbbaaGreat

/- report.Read, on. -/
namespace Go.Proofs.YtmeckbjinmgbbaaGreat
open Go.X
/-- What is read of bytes: the report, and why not. -/
def okRows (ll : List (List Int)) : Bool := decide (ll.length = 5) && decide ((ll.getD 0 []).length = 4) && decide ((ll.getD 1 []).length = 1) && decide ((ll.getD 3 []).length = 32) && decide (readE (ll.getD 4 []) = 0) && rB (repR none 0 (ll.getD 0 []) (ll.getD 1 []) (ll.getD 2 []) (ll.getD 3 []) (ll.getD 4 []))
def repE (l : List Int) : Int := match partL l with
  | none => 3
  | some ll => if okRows ll then 0 else 2
def repTx (l : List Int) : List Int := if repE l = 0 then (partR l).getD 2 [] else []
def zeroR : RepS := ⟨0, 0, none, 0, 0, [], List.replicate 32 0, StampS.zero⟩
def repRd (o : Gr) (l : List Int) : RepS := if repE l = 0 then repR (gA o) (gC o) ((partR l).getD 0 []) ((partR l).getD 1 []) ((partR l).getD 2 []) ((partR l).getD 3 []) ((partR l).getD 4 []) else zeroR
theorem okRows5 {ll : List (List Int)} (h : ll.length = 5) : ∃ l0 l1 l2 l3 l4, ll = [l0, l1, l2, l3, l4] := by
  match ll, h with
  | [l0, l1, l2, l3, l4], _ => exact ⟨_, _, _, _, _, rfl⟩
theorem of_all (A : Option Addr) (n cap : Nat) (ll : List (List Int)) (w : World) (hr : Rows w A n ll) (hm : ∀ l ∈ ll, l.length ≤ 1000000) (h : okRows ll = false) :
    Calls Tryz.prog 66 [.slice A n cap].toArray w fun e w' => e = .panicked form17 ∧ HP w w' [] [] := by
  by_cases h5 : ll.length = 5
  · obtain ⟨l0, l1, l2, l3, l4, rfl⟩ := okRows5 h5
    have hm4 := hm l4 (by simp)
    by_cases hs : l0.length = 4 ∧ l1.length = 1 ∧ l3.length = 32
    · by_cases h4 : readE l4 = 0
      · refine of_right l0 l1 l2 l3 l4 A n cap w hr hm4 hs h4 ?_
        simpa [okRows, hs, h4] using h
      · exact of_read l0 l1 l2 l3 l4 A n cap w hr hm4 hs h4
    · exact of_shape l0 l1 l2 l3 l4 A n cap w hr hm4 hs
  · exact of_len A n cap ll w hr h5
theorem GR.rowsL7 {w0 w : World} {O : List Nat} {L : List (Nat × Blk)} (hp : HP w0 w O L) : ∀ (rs : List RowB), (∀ r ∈ rs, r.l.length = r.n ∧ r.n ≤ r.cap ∧ ∀ x ∈ r.l, 0 ≤ x ∧ x ≤ 255) → (∀ r ∈ rs, r.blk 5 ∈ L) → RowsL w (rs.map RowB.v) (rs.map (·.l))
  | [], _, _ => trivial
  | r :: rs, h, hm => by
    have h0 := h r List.mem_cons_self
    have hs : SrW w 1 (some ⟨r.b, 0, none⟩) r.n (iv .u8 r.l) := HP.sown hp (hm r List.mem_cons_self) iv_one
    exact ⟨⟨some ⟨r.b, 0, none⟩, r.n, r.cap, rfl, h0.2.1, hs, h0.2.2⟩, GR.rowsL7 hp rs (fun q hq => h q (List.mem_cons_of_mem _ hq)) fun q hq => hm q (List.mem_cons_of_mem _ hq)⟩
theorem GR.rows7 {w0 w : World} {O : List Nat} {L L' : List (Nat × Blk)} {g : GR} (hp : HP w0 w O L) (hd : DelL (gRL 5 35 g) L L') (hg : g.OK) (hn : g.rs.length ≤ 9223372036854775807) : Rows w (gA g.o) g.rs.length g.ll := by
  have h1 : HP w0 w O (gL g.o g.rs.length (g.rs.map RowB.v) 35 ++ (g.rs.map (RowB.blk 5) ++ L')) := by
    have := hp.perm hd.perm.symm; unfold gRL at this; rwa [List.append_assoc] at this
  refine ⟨hn, _, HP.sgr h1 (.here _) (by simp) hg.1 (by simp [one]), GR.rowsL7 h1 g.rs hg.2 fun r hr => ?_⟩
  exact List.mem_append_right _ (List.mem_append_left _ (List.mem_map.2 ⟨r, hr, rfl⟩))
theorem GR.two7 {w0 w : World} {O : List Nat} {L L' : List (Nat × Blk)} {g : GR} (hp : HP w0 w O L) (hd : DelL (gRL 5 35 g) L L') (hg : g.OK) : SrW w 1 (gA g.o) g.rs.length (g.rs.map RowB.v) ∧ RowsL w (g.rs.map RowB.v) g.ll := by
  have h1 : HP w0 w O (gL g.o g.rs.length (g.rs.map RowB.v) 35 ++ (g.rs.map (RowB.blk 5) ++ L')) := by
    have := hp.perm hd.perm.symm; unfold gRL at this; rwa [List.append_assoc] at this
  exact ⟨HP.sgr h1 (.here _) (by simp) hg.1 (by simp [one]), GR.rowsL7 h1 g.rs hg.2 fun r hr => List.mem_append_right _ (List.mem_append_left _ (List.mem_map.2 ⟨r, hr, rfl⟩))⟩
theorem rows_le {f : Nat} : ∀ {l : List Int} {ll : List (List Int)}, partF f l = some ll → ll.length ≤ l.length ∧ ∀ x ∈ ll, x.length ≤ l.length := by
  induction f with
  | zero => intro l ll h; unfold partF at h; split at h
            · cases h; simp
            · cases h
  | succ f ih =>
    intro l ll h
    unfold partF at h
    split at h
    · cases h; simp
    split at h
    · cases h
    split at h
    · cases h
    obtain ⟨m, hm, rfl⟩ := Option.map_eq_some_iff.1 h
    have := ih hm
    simp only [List.length_drop] at this
    refine ⟨by simp only [List.length_cons]; omega, fun x hx => ?_⟩
    rcases List.mem_cons.1 hx with rfl | hx
    · simp; omega
    · have := this.2 x hx; omega
theorem partE_ne {l : List Int} (h : partE l ≠ 0) : repE l = 3 ∧ repTx l = [] ∧ ∀ o, repRd o l = zeroR := by
  have hn : partL l = none := by
    cases hq : partL l with
    | none => rfl
    | some ll => exact absurd (part_ok hq).1 h
  have h3 : repE l = 3 := by unfold repE; rw [hn]
  exact ⟨h3, by unfold repTx; rw [if_neg (by omega)], fun o => by unfold repRd; rw [if_neg (by omega)]⟩
theorem partE_eq {l : List Int} (h : partE l = 0) : partL l = some (partR l) := by
  cases hq : partL l with
  | none => rw [(part_err hq).1] at h; cases h
  | some ll => rw [(part_ok hq).2]
theorem repE_no {l : List Int} (h : partE l = 0) (h2 : okRows (partR l) = false) : repE l = 2 ∧ repTx l = [] ∧ ∀ o, repRd o l = zeroR := by
  have h3 : repE l = 2 := by unfold repE; rw [partE_eq h]; simp [h2]
  exact ⟨h3, by unfold repTx; rw [if_neg (by omega)], fun o => by unfold repRd; rw [if_neg (by omega)]⟩
theorem repE_ok {l : List Int} (h : partE l = 0) (h2 : okRows (partR l) = true) : repE l = 0 := by
  unfold repE; rw [partE_eq h]; simp [h2]
end Go.Proofs.YtmeckbjinmgbbaaGreat

/- report.Read. -/
namespace Go.Proofs.YtmeckbjinmgbbaaGreat
open Go.X
theorem zeroR_V : zeroR.V = zeroRep := by simp only [zeroR, RepS.V, StampS.zero, zeroRep, iv_rep]
theorem list5 {α : Type} {l : List α} (h : l.length = 5) : ∃ a b c d e, l = [a, b, c, d, e] := by
  match l, h with
  | [a, b, c, d, e], _ => exact ⟨_, _, _, _, _, rfl⟩
set_option maxRecDepth 4000 in
theorem repread_calls (A : Option Addr) (n cap : Nat) (l : List Int) (w : World) (hs : SrW w 1 A n (iv .u8 l)) (hb : bytes l) (hn : n ≤ cap) (hn2 : n ≤ 1000000) :
    Calls Tryz.prog 31 [.slice A n cap].toArray w fun e w' => ∃ o : Gr, GrOK o (repTx l).length ∧ e = .returned (.tuple #[AG (repRd o l).V, .int .i64 (repE l)]) ∧ HP w w' [] (gL o (repTx l).length (iv .u8 (repTx l)) 5) := by
 have hl := SrW.ilen hs
 refine calls_of_WD Tryz.func31 rfl Tryz.ntmps31 rfl rfl (HP.refl w []) ?_
 refine sr ?_
 refine oal [(1, [.int .i64 0]), (1, [.int .i64 0]), (1, [.slice none 0 0]), (32, List.replicate 32 (.int .u8 0)), (1, [.int .i64 0]), (1, [.int .i64 0]), (1, [.int .i64 0]), (1, [.int .i64 0]), (32, List.replicate 32 (.int .u8 0)), (32, List.replicate 32 (.int .u8 0))] (fun b2 => ?_)
 refine oal [(1, [.int .i64 0])] (fun b3 => ?_)
 refine nx ?_
 refine omv ?_
 refine cgR rfl (fun w hp => part_calls _ _ _ l w sw hb sc (by omega)) (fun o7 h7 => ?_)
 refine omv ?_
 refine ov vex ?_
 refine ov vex ?_
 refine oas ?_
 refine ost ?_
 refine nq ?_
 refine W.seq ?_
 refine sr ?_
 refine ov vld ?_
 refine ov (v2 V_neq) ?_
 refine nq ?_
 refine W.cond_dec rfl (fun g1 => ?_) (fun g1 => ?_)
 · refine W.quiet ?_
   refine W.seq ?_
   apply W.join
   · intro hJ
     refine dr (.l2 0 (.l2 1 (.l 2 (.l 3 (.done))) 2 (.l 1 (.l 3 (.done)))) 1 (.l 0 (.l 2 (.l 3 (.done))))) [] ?_
     refine WD.l2 ?_ ?_
     · refine dv rfl (vlda 103) ?_
       refine WD.l2 ?_ ?_
       · refine dv rfl vld ?_
         refine WD.l ?_
         refine dsta rfl 103 ?_
         refine WD.l ?_
         refine dst rfl ?_
         refine WD.done ?_
         exact WQ.pick (S' := [(0, _), (2, _), (3, _), (4, _), (11, _)]) [0, 2, 3, 4, 11] rfl hJ
       · refine dsta rfl 103 ?_
         refine WD.l ?_
         refine dv rfl vld ?_
         refine WD.l ?_
         refine dst rfl ?_
         refine WD.done ?_
         exact WQ.pick (S' := [(0, _), (2, _), (3, _), (4, _), (11, _)]) [0, 2, 3, 4, 11] rfl hJ
     · refine dv rfl vld ?_
       refine WD.l ?_
       refine dv rfl (vlda 103) ?_
       refine WD.l ?_
       refine dsta rfl 103 ?_
       refine WD.l ?_
       refine dst rfl ?_
       refine WD.done ?_
       exact WQ.pick (S' := [(0, _), (2, _), (3, _), (4, _), (11, _)]) [0, 2, 3, 4, 11] rfl hJ
   refine WQ.then ?_
   refine W.ret ?_
   refine WQ.quiet_ret ?_
   refine WQ.then_ret ?_
   refine WQ.retD2 Tryz.results31 (.cellA 103 (by kernel_rfl) rfl at_ (by rfl)) (.cell (by kernel_rfl) rfl at_ (by rfl)) ?_
   intro w' hp
   obtain ⟨e1, e2, e3⟩ := partE_ne g1
   have e4 : partE l = 3 := by unfold partE at g1 ⊢; split at g1 <;> simp_all
   refine ⟨none, by rw [e2]; rfl, ?_, by rw [e2]; exact hp.forget⟩
   rw [e1, e3, zeroR_V, e4]; rfl
 · refine W.skip ?_
   refine WQ.then ?_
   refine sr ?_
   refine ov V_makeFunc ?_
   refine odefer ?_
   refine WFL.nil ?_
   refine WFQ.then ?_
   refine WF.seq ?_
   refine WF.region ?_
   refine fmv ?_
   have hE : partE l = 0 := by simpa using g1
   obtain ⟨hok, hll⟩ := h7
   have hsz := rows_le (partE_eq hE)
   have hrl : o7.rs.length = (partR l).length := by rw [← hll]; simp [GR.ll]
   by_cases hk : okRows (partR l) = true
   · have h5 : (partR l).length = 5 := by simp [okRows] at hk; omega
     obtain ⟨og, rs⟩ := o7
     obtain ⟨r0, r1, r2, r3, r4, rfl⟩ := list5 (l := rs) (by simpa using hrl.trans h5)
     have hpr : partR l = [r0.l, r1.l, r2.l, r3.l, r4.l] := hll.symm
     have hk0 := hk
     rw [hpr] at hk
     simp only [okRows, List.getD_cons_zero, List.getD_cons_succ, Bool.and_eq_true, decide_eq_true_eq] at hk
     obtain ⟨⟨⟨⟨⟨-, k0⟩, k1⟩, k3⟩, k4⟩, kr⟩ := hk
     have hn2' : r2.l.length = r2.n := (hok.2 r2 (by simp)).1
     have hm4 : r4.l.length ≤ 1000000 := by have := hsz.2 r4.l (by rw [hpr]; simp); omega
     refine fcp rfl (fun w hp => of_ok r0.l r1.l r2.l r3.l r4.l _ _ _ w _ (GR.two7 hp dell hok).1 (GR.two7 hp dell hok).2 hm4 (some ⟨r2.b, 0, none⟩) r2.cap (by rw [hn2']; rfl) ⟨k0, k1, k3⟩ k4 kr) ?_
     unfold repR RepS.V
     refine fsta 103 ?_
     refine fstt ?_
     refine WFL.nil ?_
     refine WFQ.then ?_
     refine WF.ret ?_
     refine WFQ.retD2 (by kernel_rfl) (fun w hp => rec17_no b2 b3 w) Tryz.results31 (.cellA 103 (by kernel_rfl) rfl at_ (by rfl)) (.cell (by kernel_rfl) rfl at_ (by rfl)) ?_
     intro w' hp
     have e0 := repE_ok hE hk0
     have tx : repTx l = r2.l := by unfold repTx; rw [if_pos e0, hpr]; rfl
     have rd : ∀ o, repRd o l = repR (gA o) (gC o) r0.l r1.l r2.l r3.l r4.l := fun o => by unfold repRd; rw [if_pos e0, hpr]; rfl
     refine ⟨some (r2.b, r2.cap, r2.rs), by rw [tx, hn2']; exact (hok.2 r2 (by simp)).2.1, ?_, ?_⟩
     · rw [e0, rd]; rfl
     · rw [tx, hn2']
       refine hp.sub (List.singleton_sublist.2 ?_)
       simp [gRL, RowB.blk]
   · have hk : okRows (partR l) = false := by simpa using hk
     refine WFL.pan rfl (fun w hp => of_all _ _ _ (partR l) w (hll ▸ GR.rows7 hp dell hok (by omega)) (fun x hx => by have := hsz.2 x hx; omega) hk) ?_
     refine WFQ.then_panic ?_
     refine WFQ.panD2 (p := { v := .iface 26 (.int .i64 2), recovered := true }) rfl dels (by kernel_rfl) (fun w hp => rec_yes b2 b3 w (hh hp) (hE ▸ hh hp) (ne_of2 hp (by exact subl)).symm) Tryz.results31 (.cellA 103 (by kernel_rfl) rfl at_ (by rfl)) (.cell (by kernel_rfl) rfl at_ (by rfl)) ?_
     intro w' hp
     obtain ⟨e1, e2, e3⟩ := repE_no hE hk
     refine ⟨none, by rw [e2]; rfl, ?_, by rw [e2]; exact hp.forget⟩
     rw [e1, e3, zeroR_V]; rfl

end Go.Proofs.YtmeckbjinmgbbaaGreat
/- palfreyref17.Read. -/
namespace Go.Proofs.YtmeckbjinmgbbaaGreat
open Go.X
theorem okRows_mk {l l0 l1 l2 l3 l4 : List Int} (hpr : partR l = [l0, l1, l2, l3, l4]) (h : l0.length = 4 ∧ l1.length = 1 ∧ l3.length = 32 ∧ readE l4 = 0 ∧ rB (repR none 0 l0 l1 l2 l3 l4) = true) : okRows (partR l) = true := by
  rw [hpr]; simp [okRows, h]
end Go.Proofs.YtmeckbjinmgbbaaGreat