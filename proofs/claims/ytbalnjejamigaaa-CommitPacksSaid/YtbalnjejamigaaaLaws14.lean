/- The statements of layer 14: their walks. -/
import Derived.Test.YtbalnjejamigaaaCommit
namespace Go.Proofs.Ytbalnjejamigaaa
open Go.X

theorem awake14_calls (w : World) : Calls Try.prog 26 ([] : List Value).toArray w fun e w' => e = .returned (.bool true) ∧ HP w w' [] [] := by
 refine calls_of_W Try.func26 rfl Try.ntmps26 rfl rfl (HP.refl w []) ?_
 refine sr ?_
 refine oas ?_
 refine nx ?_
 refine ov (vbI 32 .u8 1 [1]) ?_
 refine obsI (k := .u8) 5 1 [97] (fun b6 => ?_)
 refine oro ?_
 refine obsI (k := .u8) 5 1 [98] (fun b8 => ?_)
 refine oro ?_
 refine obs 22 24 (fun b10 => ?_)
 refine cp rfl (fun w hp => make_calls _ sc sc _ _ _ _ w rw2 sc (by decide)) ?_
 refine oal [(32, List.replicate 32 (.int .u8 0))] (fun b1 => ?_)
 refine osta 32 ?_
 refine nx ?_
 refine ov (vbI 32 .u8 1 [7]) ?_
 refine obsI (k := .u8) 5 1 [120] (fun b14 => ?_)
 refine oro ?_
 refine cg rfl (fun w hp => pack_calls _ sc _ _ _ _ w sw sc) (fun b16 h16 => ?_)
 refine cgG rfl (fun w hp => unpack_calls _ _ _ _ w sw sc sc) (fun o17 h17 => ?_)
 refine omv ?_
 refine ov vex ?_
 refine ov vex ?_
 refine ov vex ?_
 refine oal [(32, List.replicate 32 (.int .u8 0))] (fun b2 => ?_)
 refine osta 32 ?_
 refine oas ?_
 refine oas ?_
 refine nx ?_
 refine ov (vlda 32) ?_
 refine ov (vbI 32 .u8 1 [1]) ?_
 refine obsI (k := .u8) 5 1 [97] (fun b23 => ?_)
 refine oro ?_
 refine obsI (k := .u8) 5 1 [98] (fun b25 => ?_)
 refine oro ?_
 refine obs 22 24 (fun b27 => ?_)
 refine cp rfl (fun w hp => check_calls14 _ _ sc sc sc _ _ _ _ w rw2 sc (by decide)) ?_
 refine ov (v2 V_eql) ?_
 refine omv ?_
 refine oy rfl (by simp) ?_
 refine ov (vlda 32) ?_
 refine oy rfl (by simp) ?_
 refine ov (vbI 32 .u8 0 []) ?_
 refine oy rfl (by simp) ?_
 refine ov (vneqI 3 32 .u8) ?_
 refine ov (V_pick_t rfl (by simp) rfl) ?_
 refine omv ?_
 refine oy rfl (by decide +kernel) ?_
 refine ov (vlda 32) ?_
 refine oy rfl (by decide +kernel) ?_
 refine ov (vbI 32 .u8 1 [7]) ?_
 refine oy rfl (by decide +kernel) ?_
 refine ov (veqlI 3 32 .u8) ?_
 refine ov (V_pick_t rfl (by decide +kernel) rfl) ?_
 refine omv ?_
 refine oy rfl (by decide +kernel) ?_
 refine omv ?_
 refine oy rfl (by decide +kernel) ?_
 refine ov vbs ?_
 refine oy rfl (by decide +kernel) ?_
 refine ov (veqSc (l' := [120]) rfl) ?_
 refine ov (V_pick_t rfl (by decide +kernel) rfl) ?_
 refine omv ?_
 refine oy rfl (by decide +kernel) ?_
 refine omv ?_
 refine oy rfl (by decide +kernel) ?_
 refine ov (v2 V_eql) ?_
 refine ov (V_pick_t rfl (by decide +kernel) rfl) ?_
 refine oas ?_
 refine nq ?_
 refine W.ret ?_
 refine WQ.ret1 Try.results26 (.tmp rfl) ?_
 intro w' hp; exact ⟨by first | rfl | (simp; done) | (simp [*]; done) | simp_all, hp.forget⟩

theorem xor_bit {x : Int} (h0 : 0 ≤ x ∧ x ≤ 255) {q : Int} (hq : 0 ≤ q ∧ q < 8) : xorI .u8 x (shlI .u8 1 q) ≠ x := by
  have key : ∀ x : Fin 256, ∀ q : Fin 8, xorI .u8 (x.val : Int) (shlI .u8 1 (q.val : Int)) ≠ (x.val : Int) := by decide +kernel
  have := key ⟨x.toNat, by omega⟩ ⟨q.toNat, by omega⟩
  simp only at this
  rwa [Int.toNat_of_nonneg h0.1, Int.toNat_of_nonneg hq.1] at this
theorem set_ne {l : List Int} {i : Nat} {y : Int} (hi : i < l.length) (h : y ≠ l.getD i 0) : l ≠ l.set i y := fun e => h (by
  have e2 := congrArg (fun l => l.getD i 0) e
  simp only [List.getD_eq_getElem?_getD, List.getElem?_set_self hi] at e2
  rw [List.getD_eq_getElem?_getD, e2]; rfl)

theorem keyF_app {ol l : List Int} (ho : ol.length = 32) : keyF (ol ++ l) = ol := by
  unfold keyF; rw [if_neg (by simp; omega), List.take_append_of_le_length (by omega), List.take_of_length_le (by omega)]
theorem drop_app {ol l : List Int} (ho : ol.length = 32) : (ol ++ l).drop 32 = l := by
  rw [List.drop_append_of_le_length (by omega), List.drop_of_length_le (by omega), List.nil_append]
theorem key_drop {l : List Int} (h : 32 ≤ l.length) : keyF l ++ l.drop 32 = l := by
  unfold keyF; rw [if_neg (by omega), List.take_append_drop]

theorem joinLen_of {ll : List (List Int)} : ∀ {a : Int}, 0 ≤ a → ll.foldl (fun n l => n + min (l.length : Int) 10000) a < 10000 → ((joinF ll).length : Int) + a ≤ 4 * ll.length + ll.foldl (fun n l => n + min (l.length : Int) 10000) a := by
  induction ll with
  | nil => intro a _ _; simp [joinF]
  | cons l ll ih =>
    intro a h0 h
    simp only [List.foldl_cons] at h ⊢
    have hb : a + min (l.length : Int) 10000 ≤ ll.foldl (fun n l => n + min (l.length : Int) 10000) (a + min (l.length : Int) 10000) := by
      have key : ∀ (ll : List (List Int)) (n : Int), n ≤ ll.foldl (fun n l => n + min (l.length : Int) 10000) n := by
        intro ll
        induction ll with
        | nil => simp
        | cons l ll ih => intro n; have := ih (n + min (l.length : Int) 10000); simp only [List.foldl_cons]; omega
      exact key ll _
    have ih' := ih (by omega) h
    have e : (joinF (l :: ll)).length = 4 + l.length + (joinF ll).length := by simp [joinF]; omega
    rw [e, List.length_cons]
    omega
theorem light_join {ll : List (List Int)} (h : lightB ll = true) : (joinF ll).length ≤ 4000000 := by
  unfold lightB at h
  simp only [Bool.and_eq_true, decide_eq_true_eq] at h
  have := joinLen_of (ll := ll) (a := 0) (by omega) h.2
  unfold lightF at h
  omega

theorem commitMakes_calls (ol cl : List Int) (ho : ol.length = 32) (hob : bytes ol) (hcl : cl.length = 32) (A : Option Addr) (n cap : Nat) (ll : List (List Int)) (w : World) (hr : Rows w A n ll) (hlb : ∀ l ∈ ll, bytes l) :
    Calls Try.prog 7 [AG [(32, iv .u8 ol)], AG [(32, iv .u8 cl)], .slice A n cap].toArray w fun e w' => e = .returned (.bool true) ∧ HP w w' [] [] := by
 refine calls_of_W Try.func7 rfl Try.ntmps7 rfl rfl (HP.refl w []) ?_
 refine sr ?_
 refine obxa (fun b3 => ?_)
 refine obxa (fun b4 => ?_)
 refine oas ?_
 refine nx ?_
 refine cp rfl (fun w hp => awake14_calls w) ?_
 refine oas ?_
 refine nx ?_
 refine omv ?_
 refine cp rfl (fun w hp => light_calls _ _ _ _ w rws) ?_
 refine oas ?_
 refine nq ?_
 refine W.seq ?_
 refine sr ?_
 refine omv ?_
 refine ov vnot ?_
 refine nq ?_
 refine W.cond rfl (fun g1 => ?_) (fun g1 => ?_)
 · refine W.seq ?_
   refine W.region ?_
   refine omv ?_
   refine oas ?_
   refine nq ?_
   refine W.ret ?_
   refine WQ.then_ret ?_
   refine WQ.ret1 Try.results7 (.tmp rfl) ?_
   intro w' hp; exact ⟨by first | rfl | (simp; done) | (simp [*]; done) | simp_all, hp.forget⟩
 · refine W.skip ?_
   refine WQ.then ?_
   refine sr ?_
   have hlj := light_join (ll := ll) (by simpa using g1)
   refine ov (vlda 32) ?_
   refine omv ?_
   refine cp rfl (fun w hp => make_calls _ sc sc _ _ _ _ w rws sc sc) ?_
   refine oal [(32, List.replicate 32 (.int .u8 0))] (fun b9 => ?_)
   refine osta 32 ?_
   refine nx ?_
   refine oas ?_
   refine nq ?_
   refine W.seq ?_
   refine W.seq ?_
   refine dr (.q 0 (.q 1 (.q 2 (.l 3 (.q 4 (.done)))))) [(b4, _), (b3, _)] ?_
   refine dq rfl (vlda 32) ?_
   refine dq rfl (vlda 32) ?_
   refine dq rfl (V_move rfl) ?_
   refine WD.l ?_
   refine dcp rfl rfl (fun w hp => rmake_calls _ sc sc _ _ _ _ w rws sc sc) ?_
   refine dq rfl (veqlI 3 32 .u8) ?_
   refine WD.done ?_
   refine WQ.then ?_
   refine W.cond_dec rfl (fun g2 => ?_) (fun g2 => ?_)
   · refine W.region ?_
     refine oas ?_
     refine nq ?_
     refine W.seq ?_
     refine dr (.q 0 (.q 1 (.q 2 (.q 3 (.q 4 (.l 5 (.q 6 (.q 7 (.q 8 (.q 9 (.q 10 (.q 11 (.q 13 (.l 12 (.q 14 (.q 15 (.q 16 (.q 17 (.q 18 (.q 19 (.l 20 (.q 21 (.q 22 (.q 23 (.done))))))))))))))))))))))))) [(b9, _), (b4, _), (b3, _)] ?_
     refine dq rfl (V_move rfl) ?_
     refine dq rfl (V_move rfl) ?_
     refine dy rfl rfl rfl (vlda 32) ?_
     refine dy rfl rfl rfl (vlda 32) ?_
     refine dy rfl rfl rfl (V_move rfl) ?_
     refine WD.l ?_
     refine dcp rfl rfl (fun w hp => rmake_calls _ sc sc _ _ _ _ w rws sc sc) ?_ (hg := gy rfl rfl)
     refine dy rfl rfl rfl (veqlI 3 32 .u8) ?_
     refine dq rfl (V_pick_t rfl rfl rfl) ?_
     refine dq rfl (V_move rfl) ?_
     refine dy rfl rfl (by first | (simp; done) | (simp [*]; done) | (split <;> simp_all; done) | simp_all) (vlda 32) ?_
     refine dy rfl rfl (by first | (simp; done) | (simp [*]; done) | (split <;> simp_all; done) | simp_all) (vlda 32) ?_
     refine dy rfl rfl (by first | (simp; done) | (simp [*]; done) | (split <;> simp_all; done) | simp_all) (V_move rfl) ?_
     refine dy rfl rfl (by first | (simp; done) | (simp [*]; done) | (split <;> simp_all; done) | simp_all) (V_move rfl) ?_
     refine WD.l ?_
     refine dcp rfl rfl (fun w hp => check_calls14 _ _ sc sc sc _ _ _ _ w rws sc sc) ?_ (hg := gy rfl (by first | (simp; done) | (simp [*]; done) | (split <;> simp_all; done) | simp_all))
     refine dy rfl rfl (by first | (simp; done) | (simp [*]; done) | (split <;> simp_all; done) | simp_all) (v2 V_eql) ?_
     refine dq rfl (V_pick_t rfl (by first | (simp; done) | (simp [*]; done) | (split <;> simp_all; done) | simp_all) rfl) ?_
     refine dq rfl (V_move rfl) ?_
     refine dy rfl rfl (by first | (simp; done) | (simp [*]; done) | (split <;> simp_all; done) | simp_all) (vlda 32) ?_
     refine dy rfl rfl (by first | (simp; done) | (simp [*]; done) | (split <;> simp_all; done) | simp_all) (vlda 32) ?_
     refine dy rfl rfl (by first | (simp; done) | (simp [*]; done) | (split <;> simp_all; done) | simp_all) (V_move rfl) ?_
     refine WD.l ?_
     refine dcp rfl rfl (fun w hp => check_calls14 _ _ sc sc sc _ _ _ _ w rws sc sc) ?_ (hg := gy rfl (by first | (simp; done) | (simp [*]; done) | (split <;> simp_all; done) | simp_all))
     refine dy rfl rfl (by first | (simp; done) | (simp [*]; done) | (split <;> simp_all; done) | simp_all) (v2 V_eql) ?_
     refine dq rfl (V_pick_t rfl (by first | (simp; done) | (simp [*]; done) | (split <;> simp_all; done) | simp_all) rfl) ?_
     refine dq rfl (V_assign rfl) ?_
     refine WD.done ?_
     refine WQ.then ?_
     refine W.ret ?_
     refine WQ.ret1 Try.results7 (.tmp rfl) ?_
     intro w' hp; exact ⟨by first | rfl | (simp; done) | (simp [*]; done) | simp_all, hp.forget⟩
   · refine W.skip ?_
     refine WQ.then ?_
     refine W.seq ?_
     refine dr (.q 0 (.q 1 (.q 2 (.q 3 (.q 4 (.l 5 (.q 6 (.q 7 (.q 8 (.q 9 (.q 10 (.q 11 (.q 13 (.l 12 (.q 14 (.q 15 (.q 16 (.q 17 (.q 18 (.q 19 (.l 20 (.q 21 (.q 22 (.q 23 (.done))))))))))))))))))))))))) [(b9, _), (b4, _), (b3, _)] ?_
     refine dq rfl (V_move rfl) ?_
     refine dq rfl (V_move rfl) ?_
     refine dy rfl rfl rfl (vlda 32) ?_
     refine dy rfl rfl rfl (vlda 32) ?_
     refine dy rfl rfl rfl (V_move rfl) ?_
     refine WD.l ?_
     refine dcp rfl rfl (fun w hp => rmake_calls _ sc sc _ _ _ _ w rws sc sc) ?_ (hg := gy rfl rfl)
     refine dy rfl rfl rfl (veqlI 3 32 .u8) ?_
     refine dq rfl (V_pick_t rfl rfl rfl) ?_
     refine dq rfl (V_move rfl) ?_
     refine dy rfl rfl (by first | (simp; done) | (simp [*]; done) | (split <;> simp_all; done) | simp_all) (vlda 32) ?_
     refine dy rfl rfl (by first | (simp; done) | (simp [*]; done) | (split <;> simp_all; done) | simp_all) (vlda 32) ?_
     refine dy rfl rfl (by first | (simp; done) | (simp [*]; done) | (split <;> simp_all; done) | simp_all) (V_move rfl) ?_
     refine dy rfl rfl (by first | (simp; done) | (simp [*]; done) | (split <;> simp_all; done) | simp_all) (V_move rfl) ?_
     refine WD.l ?_
     refine dcp rfl rfl (fun w hp => check_calls14 _ _ sc sc sc _ _ _ _ w rws sc sc) ?_ (hg := gy rfl (by first | (simp; done) | (simp [*]; done) | (split <;> simp_all; done) | simp_all))
     refine dy rfl rfl (by first | (simp; done) | (simp [*]; done) | (split <;> simp_all; done) | simp_all) (v2 V_eql) ?_
     refine dq rfl (V_pick_t rfl (by first | (simp; done) | (simp [*]; done) | (split <;> simp_all; done) | simp_all) rfl) ?_
     refine dq rfl (V_move rfl) ?_
     refine dy rfl rfl (by first | (simp; done) | (simp [*]; done) | (split <;> simp_all; done) | simp_all) (vlda 32) ?_
     refine dy rfl rfl (by first | (simp; done) | (simp [*]; done) | (split <;> simp_all; done) | simp_all) (vlda 32) ?_
     refine dy rfl rfl (by first | (simp; done) | (simp [*]; done) | (split <;> simp_all; done) | simp_all) (V_move rfl) ?_
     refine WD.l ?_
     refine dcp rfl rfl (fun w hp => check_calls14 _ _ sc sc sc _ _ _ _ w rws sc sc) ?_ (hg := gy rfl (by first | (simp; done) | (simp [*]; done) | (split <;> simp_all; done) | simp_all))
     refine dy rfl rfl (by first | (simp; done) | (simp [*]; done) | (split <;> simp_all; done) | simp_all) (v2 V_eql) ?_
     refine dq rfl (V_pick_t rfl (by first | (simp; done) | (simp [*]; done) | (split <;> simp_all; done) | simp_all) rfl) ?_
     refine dq rfl (V_assign rfl) ?_
     refine WD.done ?_
     refine WQ.then ?_
     refine W.ret ?_
     refine WQ.ret1 Try.results7 (.tmp rfl) ?_
     intro w' hp; exact ⟨by first | rfl | (simp; done) | (simp [*]; done) | simp_all, hp.forget⟩

theorem commitRows_calls (ol : List Int) (ho : ol.length = 32) (hob : bytes ol) (A : Option Addr) (n cap : Nat) (ll : List (List Int)) (w : World) (hr : Rows w A n ll) (hlb : ∀ l ∈ ll, bytes l) (A2 : Option Addr) (n2 cap2 : Nat) (ll2 : List (List Int)) (hr2 : Rows w A2 n2 ll2) (hlb2 : ∀ l ∈ ll2, bytes l) :
    Calls Try.prog 10 [AG [(32, iv .u8 ol)], .slice A n cap, .slice A2 n2 cap2].toArray w fun e w' => e = .returned (.bool true) ∧ HP w w' [] [] := by
 refine calls_of_W Try.func10 rfl Try.ntmps10 rfl rfl (HP.refl w []) ?_
 refine sr ?_
 refine obxa (fun b3 => ?_)
 refine oas ?_
 refine nx ?_
 refine cp rfl (fun w hp => awake14_calls w) ?_
 refine oas ?_
 refine nx ?_
 refine omv ?_
 refine cp rfl (fun w hp => light_calls _ _ _ _ w rws) ?_
 refine oas ?_
 refine nx ?_
 refine omv ?_
 refine cp rfl (fun w hp => light_calls _ _ _ _ w rws) ?_
 refine oas ?_
 refine nq ?_
 refine W.seq ?_
 refine sr ?_
 refine omv ?_
 refine ov vnot ?_
 refine omv ?_
 refine WL.split rfl (fun g1 => ?_) (fun g1 => ?_)
 · refine on rfl g1 ?_
   refine on rfl g1 ?_
   refine ov (V_pick_t rfl g1 rfl) ?_
   refine nq ?_
   refine W.cond_true rfl rfl ?_
   refine sr ?_
   refine omv ?_
   refine oas ?_
   refine nq ?_
   refine W.ret ?_
   refine WQ.then_ret ?_
   refine WQ.ret1 Try.results10 (.tmp rfl) ?_
   intro w' hp; exact ⟨rfl, hp.forget⟩
 · refine oy rfl g1 ?_
   refine omv ?_
   refine oy rfl g1 ?_
   refine ov vnot ?_
   refine ov (V_pick_f rfl g1 rfl) ?_
   refine nq ?_
   refine W.cond rfl (fun g2 => ?_) (fun g2 => ?_)
   · refine W.seq ?_
     refine W.region ?_
     refine omv ?_
     refine oas ?_
     refine nq ?_
     refine W.ret ?_
     refine WQ.then_ret ?_
     refine WQ.ret1 Try.results10 (.tmp rfl) ?_
     intro w' hp; exact ⟨rfl, hp.forget⟩
   · refine W.skip ?_
     refine WQ.then ?_
     refine sr ?_
     have hlj := light_join (ll := ll) (by simpa using g1)
     have hlj2 := light_join (ll := ll2) (by simpa using g2)
     refine ov (vlda 32) ?_
     refine omv ?_
     refine cp rfl (fun w hp => make_calls _ sc sc _ _ _ _ w rws sc sc) ?_
     refine oal [(32, List.replicate 32 (.int .u8 0))] (fun b10 => ?_)
     refine osta 32 ?_
     refine nx ?_
     refine ov (vlda 32) ?_
     refine omv ?_
     refine cp rfl (fun w hp => make_calls _ sc sc _ _ _ _ w rws sc sc) ?_
     refine oal [(32, List.replicate 32 (.int .u8 0))] (fun b11 => ?_)
     refine osta 32 ?_
     refine nq ?_
     refine W.seq ?_
     refine dr (.q 0 (.q 1 (.q 2 (.q 3 (.q 4 (.l 5 (.q 6 (.q 7 (.q 8 (.q 9 (.q 10 (.q 11 (.l 12 (.q 13 (.q 14 (.q 15 (.q 16 (.q 17 (.q 18 (.q 21 (.q 22 (.q 23 (.l 19 (.q 20 (.q 24 (.q 25 (.q 26 (.done)))))))))))))))))))))))))))) [(b11, _), (b10, _), (b3, _)] ?_
     refine dq rfl (V_move rfl) ?_
     refine dq rfl (V_move rfl) ?_
     refine dy rfl rfl rfl (vlda 32) ?_
     refine dy rfl rfl rfl (vlda 32) ?_
     refine dy rfl rfl rfl (V_move rfl) ?_
     refine WD.l ?_
     refine dcp rfl rfl (fun w hp => rmake_calls _ sc sc _ _ _ _ w rws sc sc) ?_ (hg := gy rfl rfl)
     refine dy rfl rfl rfl (veqlI 3 32 .u8) ?_
     refine dq rfl (V_pick_t rfl rfl rfl) ?_
     refine dq rfl (V_move rfl) ?_
     refine dy rfl rfl (by first | (simp; done) | (simp [*]; done) | (split <;> simp_all; done) | simp_all) (vlda 32) ?_
     refine dy rfl rfl (by first | (simp; done) | (simp [*]; done) | (split <;> simp_all; done) | simp_all) (vlda 32) ?_
     refine dy rfl rfl (by first | (simp; done) | (simp [*]; done) | (split <;> simp_all; done) | simp_all) (V_move rfl) ?_
     refine WD.l ?_
     refine dcp rfl rfl (fun w hp => rmake_calls _ sc sc _ _ _ _ w rws sc sc) ?_ (hg := gy rfl (by first | (simp; done) | (simp [*]; done) | (split <;> simp_all; done) | simp_all))
     refine dy rfl rfl (by first | (simp; done) | (simp [*]; done) | (split <;> simp_all; done) | simp_all) (veqlI 3 32 .u8) ?_
     refine dq rfl (V_pick_t rfl (by first | (simp; done) | (simp [*]; done) | (split <;> simp_all; done) | simp_all) rfl) ?_
     refine dq rfl (V_move rfl) ?_
     refine dy rfl rfl (by first | (simp; done) | (simp [*]; done) | (split <;> simp_all; done) | simp_all) (vlda 32) ?_
     refine dy rfl rfl (by first | (simp; done) | (simp [*]; done) | (split <;> simp_all; done) | simp_all) (vlda 32) ?_
     refine dy rfl rfl (by first | (simp; done) | (simp [*]; done) | (split <;> simp_all; done) | simp_all) (V_move rfl) ?_
     refine dy rfl rfl (by first | (simp; done) | (simp [*]; done) | (split <;> simp_all; done) | simp_all) (vlda 32) ?_
     refine dy rfl rfl (by first | (simp; done) | (simp [*]; done) | (split <;> simp_all; done) | simp_all) (vlda 32) ?_
     refine dy rfl rfl (by first | (simp; done) | (simp [*]; done) | (split <;> simp_all; done) | simp_all) (veqlI 3 32 .u8) ?_
     refine WD.l ?_
     refine dcp rfl rfl (fun w hp => check_calls14 _ _ sc sc sc _ _ _ _ w rws sc sc) ?_ (hg := gy rfl (by first | (simp; done) | (simp [*]; done) | (split <;> simp_all; done) | simp_all))
     refine dy rfl rfl (by first | (simp; done) | (simp [*]; done) | (split <;> simp_all; done) | simp_all) (v2 V_eql) ?_
     refine dy rfl rfl (by first | (simp; done) | (simp [*]; done) | (split <;> simp_all; done) | simp_all) (V_eqlB (by kernel_rfl) rfl rfl) ?_
     refine dq rfl (V_pick_t rfl (by first | (simp; done) | (simp [*]; done) | (split <;> simp_all; done) | simp_all) rfl) ?_
     refine dq rfl (V_assign rfl) ?_
     refine WD.done ?_
     refine WQ.then ?_
     refine W.ret ?_
     refine WQ.ret1 Try.results10 (.tmp rfl) ?_
     intro w' hp; exact ⟨by simp [eq_comm], hp.forget⟩

theorem commitOne_calls (ol : List Int) (ho : ol.length = 32) (hob : bytes ol) (A : Option Addr) (n cap : Nat) (ll : List (List Int)) (w : World) (hr : Rows w A n ll) (hlb : ∀ l ∈ ll, bytes l) (p : Int) (hp64 : p ≤ 9223372036854775807) :
    Calls Try.prog 9 [AG [(32, iv .u8 ol)], .slice A n cap, .int .i64 p].toArray w fun e w' => e = .returned (.bool true) ∧ HP w w' [] [] := by
 refine calls_of_W Try.func9 rfl Try.ntmps9 rfl rfl (HP.refl w []) ?_
 refine sr ?_
 refine obxa (fun b3 => ?_)
 refine oas ?_
 refine nx ?_
 refine cp rfl (fun w hp => awake14_calls w) ?_
 refine oas ?_
 refine nx ?_
 refine omv ?_
 refine cp rfl (fun w hp => light_calls _ _ _ _ w rws) ?_
 refine oas ?_
 refine nq ?_
 refine W.seq ?_
 refine sr ?_
 refine omv ?_
 refine ov vnot ?_
 refine omv ?_
 refine WL.split rfl (fun g1 => ?_) (fun g1 => ?_)
 · refine on rfl g1 ?_
   refine on rfl g1 ?_
   refine ov (V_pick_t rfl g1 rfl) ?_
   refine nq ?_
   refine W.cond_true rfl rfl ?_
   refine sr ?_
   refine omv ?_
   refine oas ?_
   refine nq ?_
   refine W.ret ?_
   refine WQ.then_ret ?_
   refine WQ.ret1 Try.results9 (.tmp rfl) ?_
   intro w' hp; exact ⟨by first | rfl | (simp; done) | (simp [*]; done) | simp_all, hp.forget⟩
 · refine oy rfl g1 ?_
   refine omv ?_
   refine oy rfl g1 ?_
   refine ov (v2 V_lss) ?_
   refine ov (V_pick_f rfl g1 rfl) ?_
   refine nq ?_
   refine W.cond_dec rfl (fun g2 => ?_) (fun g2 => ?_)
   · refine W.seq ?_
     refine W.region ?_
     refine omv ?_
     refine oas ?_
     refine nq ?_
     refine W.ret ?_
     refine WQ.then_ret ?_
     refine WQ.ret1 Try.results9 (.tmp rfl) ?_
     intro w' hp; exact ⟨by first | rfl | (simp; done) | (simp [*]; done) | simp_all, hp.forget⟩
   · refine W.skip ?_
     refine WQ.then ?_
     refine sr ?_
     have hlj := light_join (ll := ll) (by simpa using g1)
     have hne : macF ol (joinF ll) ≠ (macF ol (joinF ll)).set (p % 32).toNat (xorI .u8 ((macF ol (joinF ll)).getD (p % 32).toNat 0) (shlI .u8 1 (p / 32 % 8))) := set_ne (by rw [macF_len]; omega) (xor_bit (macF_bytes.get _) ⟨by omega, by omega⟩)
     refine ov (vlda 32) ?_
     refine omv ?_
     refine cp rfl (fun w hp => make_calls _ sc sc _ _ _ _ w rws sc sc) ?_
     refine oal [(32, List.replicate 32 (.int .u8 0))] (fun b9 => ?_)
     refine osta 32 ?_
     refine nx ?_
     refine ov (vlda 32) ?_
     refine oal [(32, List.replicate 32 (.int .u8 0))] (fun b10 => ?_)
     refine osta 32 ?_
     refine nq ?_
     refine W.seq ?_
     refine dr (.q 0 (.q 1 (.q 2 (.q 4 (.q 5 (.q 6 (.q 7 (.l 3 (.q 8 (.q 9 (.l 10 (.done)))))))))))) [] ?_
     refine dq rfl (V_move rfl) ?_
     first | refine dq rfl vrem ?_ | refine dq rfl (V_rem rfl rfl (by omega)) ?_
     first | refine dq rfl (viA0 32) ?_ | refine dq rfl (viA0Z 32) ?_
     refine dq rfl (V_move rfl) ?_
     first | refine dq rfl vquo ?_ | refine dq rfl (V_quo rfl rfl (by omega)) ?_
     first | refine dq rfl vrem ?_ | refine dq rfl (V_rem rfl rfl (by omega)) ?_
     refine dq rfl (V_shl rfl rfl (by omega)) ?_
     refine WD.l ?_
     first | refine dv rfl vldI ?_ | refine dv rfl vld ?_
     refine dq rfl (v2 V_xor) ?_
     first | refine dq rfl (viA0 32) ?_ | refine dq rfl (viA0Z 32) ?_
     refine WD.l ?_
     first | refine dstI rfl ?_ | refine dst rfl ?_
     refine WD.done ?_
     refine WQ.then ?_
     refine W.seq ?_
     refine dr (.q 0 (.q 1 (.q 2 (.q 3 (.q 4 (.l 5 (.q 6 (.q 7 (.q 8 (.q 9 (.q 10 (.q 11 (.l 12 (.q 13 (.q 14 (.q 15 (.q 16 (.q 17 (.q 19 (.l 18 (.q 20 (.q 21 (.q 22 (.done)))))))))))))))))))))))) [(b10, _), (b9, _), (b3, _)] ?_
     refine dq rfl (V_move rfl) ?_
     refine dq rfl (V_move rfl) ?_
     refine dy rfl rfl rfl (vlda 32) ?_
     refine dy rfl rfl rfl (vlda 32) ?_
     refine dy rfl rfl rfl (V_move rfl) ?_
     refine WD.l ?_
     refine dcp rfl rfl (fun w hp => check_calls14 _ _ sc sc sc _ _ _ _ w rws sc sc) ?_ (hg := gy rfl rfl)
     refine dy rfl rfl rfl (v2 V_eql) ?_
     refine dq rfl (V_pick_t rfl rfl rfl) ?_
     refine dq rfl (V_move rfl) ?_
     refine dy rfl rfl (by simp) (vlda 32) ?_
     refine dy rfl rfl (by simp) (vlda 32) ?_
     refine dy rfl rfl (by simp) (V_move rfl) ?_
     refine WD.l ?_
     refine dcp rfl rfl (fun w hp => check_calls14 _ _ sc sc sc _ _ _ _ w rws sc sc) ?_ (hg := gy rfl (by simp))
     refine dy rfl rfl (by simp) (v2 V_eql) ?_
     refine dq rfl (V_pick_t rfl (by simp) rfl) ?_
     refine dq rfl (V_move rfl) ?_
     refine dy rfl rfl (by rw [if_neg hne]; rfl) (vlda 32) ?_
     refine dy rfl rfl (by rw [if_neg hne]; rfl) (V_move rfl) ?_
     refine dy rfl rfl (by rw [if_neg hne]; rfl) (vlda 32) ?_
     refine WD.l ?_
     refine dcp rfl rfl (fun w hp => make_calls _ sc sc _ _ _ _ w rws sc sc) ?_ (hg := gy rfl (by rw [if_neg hne]; rfl))
     refine dy rfl rfl (by rw [if_neg hne]; rfl) (veqlI 3 32 .u8) ?_
     refine dq rfl (V_pick_t rfl (by rw [if_neg hne]; rfl) rfl) ?_
     refine dq rfl (V_assign rfl) ?_
     refine WD.done ?_
     refine WQ.then ?_
     refine W.ret ?_
     refine WQ.ret1 Try.results9 (.tmp rfl) ?_
     intro w' hp; exact ⟨by first | rfl | (simp; done) | (simp [*]; done) | simp_all, hp.forget⟩

theorem commitPacks_calls (ol : List Int) (ho : ol.length = 32) (hob : bytes ol) (A : Option Addr) (n cap : Nat) (l : List Int) (w : World) (hs : SrW w 1 A n (iv .u8 l)) (hb : bytes l) (hc : n ≤ cap) (hn : n ≤ 9223372036854775807) (A2 : Option Addr) (n2 cap2 : Nat) (l2 : List Int) (hs2 : SrW w 1 A2 n2 (iv .u8 l2)) (hb2 : bytes l2) (hc2 : n2 ≤ cap2) (hn2 : n2 ≤ 9223372036854775807) :
    Calls Try.prog 8 [AG [(32, iv .u8 ol)], .slice A n cap, .slice A2 n2 cap2].toArray w fun e w' => e = .returned (.bool true) ∧ HP w w' [] [] := by
 have hl := SrW.ilen hs
 have hl2 := SrW.ilen hs2
 refine calls_of_W Try.func8 rfl Try.ntmps8 rfl rfl (HP.refl w []) ?_
 refine sr ?_
 refine obxa (fun b3 => ?_)
 refine oas ?_
 refine nx ?_
 refine cp rfl (fun w hp => awake14_calls w) ?_
 refine oas ?_
 refine nq ?_
 refine W.seq ?_
 refine sr ?_
 refine omv ?_
 refine ov vlenS ?_
 refine ov (v2 V_gtr) ?_
 refine omv ?_
 refine WL.splitD rfl (fun g1 => ?_) (fun g1 => ?_)
 · refine on rfl (decide_eq_true g1) ?_
   refine on rfl (decide_eq_true g1) ?_
   refine on rfl (decide_eq_true g1) ?_
   refine ov (V_pick_td rfl g1 rfl) ?_
   refine nq ?_
   refine W.cond_true rfl rfl ?_
   refine sr ?_
   refine omv ?_
   refine oas ?_
   refine nq ?_
   refine W.ret ?_
   refine WQ.then_ret ?_
   refine WQ.ret1 Try.results8 (.tmp rfl) ?_
   intro w' hp; exact ⟨by first | rfl | (simp; done) | (simp [*]; done) | simp_all, hp.forget⟩
 · refine oy rfl (decide_eq_false g1) ?_
   refine omv ?_
   refine oy rfl (decide_eq_false g1) ?_
   refine ov vlenS ?_
   refine oy rfl (decide_eq_false g1) ?_
   refine ov (v2 V_gtr) ?_
   refine ov (V_pick_fd rfl g1 rfl) ?_
   refine nq ?_
   refine W.cond_dec rfl (fun g2 => ?_) (fun g2 => ?_)
   · refine W.seq ?_
     refine W.region ?_
     refine omv ?_
     refine oas ?_
     refine nq ?_
     refine W.ret ?_
     refine WQ.then_ret ?_
     refine WQ.ret1 Try.results8 (.tmp rfl) ?_
     intro w' hp; exact ⟨by first | rfl | (simp; done) | (simp [*]; done) | simp_all, hp.forget⟩
   · refine W.skip ?_
     refine WQ.then ?_
     refine sr ?_
     refine ov (vlda 32) ?_
     refine omv ?_
     refine cg rfl (fun w hp => pack_calls _ sc _ _ _ _ w sw sc) (fun b30 h30 => ?_)
     refine oas ?_
     refine nx ?_
     refine omv ?_
     refine cgG rfl (fun w hp => unpack_calls _ _ _ _ w sw sc sc) (fun o33 h33 => ?_)
     refine omv ?_
     refine ov vex ?_
     refine ov vex ?_
     refine ov vex ?_
     refine oal [(32, List.replicate 32 (.int .u8 0))] (fun b9 => ?_)
     refine osta 32 ?_
     refine oas ?_
     refine oas ?_
     refine nx ?_
     refine omv ?_
     refine cgG rfl (fun w hp => unpack_calls _ _ _ _ w sw sc sc) (fun o39 h39 => ?_)
     refine omv ?_
     refine ov vex ?_
     refine ov vex ?_
     refine ov vex ?_
     refine oal [(32, List.replicate 32 (.int .u8 0))] (fun b12 => ?_)
     refine osta 32 ?_
     refine oas ?_
     refine oas ?_
     refine nx ?_
     refine omv ?_
     refine cgG rfl (fun w hp => runpack_calls _ _ _ _ w sw sc sc) (fun o45 h45 => ?_)
     refine omv ?_
     refine ov vex ?_
     refine ov vex ?_
     refine ov vex ?_
     refine oal [(32, List.replicate 32 (.int .u8 0))] (fun b15 => ?_)
     refine osta 32 ?_
     refine oas ?_
     refine oas ?_
     refine nq ?_
     refine W.seq ?_
     refine W.seq ?_
     by_cases hlt : n2 < 32
     · refine dr (.q 0 (.q 1 (.q 2 (.q 3 (.q 4 (.q 7 (.q 8 (.l 5 (.l 6 (.q 9 (.q 10 (.done)))))))))))) [(b12, _)] ?_
       refine dq rfl (V_move rfl) ?_
       refine dq rfl (v2 V_eql) ?_
       refine dq rfl (V_move rfl) ?_
       refine dn rfl rfl (by simp [hlt]) ?_
       refine dn rfl rfl (by simp [hlt]) ?_
       refine dn rfl rfl (by simp [hlt]) ?_
       refine dn rfl rfl (by simp [hlt]) ?_
       refine WD.l ?_
       refine dno rfl rfl (by simp [hlt]) ?_
       refine WD.l ?_
       refine dno rfl rfl (by simp [hlt]) ?_
       refine dn rfl rfl (by simp [hlt]) ?_
       refine dq rfl (V_pick_f rfl (by simp [hlt]) rfl) ?_
       refine WD.done ?_
       refine WQ.then ?_
       refine W.cond_false rfl rfl ?_
       refine W.skip ?_
       refine WQ.then ?_
       refine sr ?_
       refine omv ?_
       refine omv ?_
       refine oy rfl rfl ?_
       refine omv ?_
       refine oy rfl rfl ?_
       refine ov vlenS ?_
       refine oy rfl rfl ?_
       refine omv ?_
       refine oy rfl rfl ?_
       refine ov vlenS ?_
       refine oy rfl rfl ?_
       first | refine ov vaddN ?_ | refine ov vadd ?_
       refine oy rfl rfl ?_
       refine ov (v2 V_eql) ?_
       refine ov (V_pick_t rfl rfl rfl) ?_
       refine omv ?_
       refine oy rfl (by simp; omega) ?_
       refine ov (vlda 32) ?_
       refine oy rfl (by simp; omega) ?_
       refine ov (vlda 32) ?_
       refine oy rfl (by simp; omega) ?_
       refine ov (veqlI 3 32 .u8) ?_
       refine ov (V_pick_t rfl (by simp; omega) rfl) ?_
       refine omv ?_
       refine oy rfl (by simp [keyF_app ho]) ?_
       refine omv ?_
       refine oy rfl (by simp [keyF_app ho]) ?_
       refine ov vbs ?_
       refine oy rfl (by simp [keyF_app ho]) ?_
       refine omv ?_
       refine oy rfl (by simp [keyF_app ho]) ?_
       refine ov vbs ?_
       refine oy rfl (by simp [keyF_app ho]) ?_
       refine ov veqS ?_
       refine ov (V_pick_t rfl (by simp [keyF_app ho]) rfl) ?_
       refine omv ?_
       refine oy rfl (by simp [drop_app ho]) ?_
       refine omv ?_
       refine oy rfl (by simp [drop_app ho]) ?_
       refine ov (v2 V_eql) ?_
       refine ov (V_pick_t rfl (by simp [drop_app ho]) rfl) ?_
       refine omv ?_
       refine oy rfl (by first | (simp; done) | (simp [*]; done) | (split <;> simp_all; done) | simp_all) ?_
       refine ov (vlda 32) ?_
       refine oy rfl (by first | (simp; done) | (simp [*]; done) | (split <;> simp_all; done) | simp_all) ?_
       refine ov (vlda 32) ?_
       refine oy rfl (by first | (simp; done) | (simp [*]; done) | (split <;> simp_all; done) | simp_all) ?_
       refine ov (veqlI 3 32 .u8) ?_
       refine ov (V_pick_t rfl (by first | (simp; done) | (simp [*]; done) | (split <;> simp_all; done) | simp_all) rfl) ?_
       refine omv ?_
       refine oy rfl (by first | (simp; done) | (simp [*]; done) | (split <;> simp_all; done) | simp_all) ?_
       refine omv ?_
       refine oy rfl (by first | (simp; done) | (simp [*]; done) | (split <;> simp_all; done) | simp_all) ?_
       refine ov vbs ?_
       refine oy rfl (by first | (simp; done) | (simp [*]; done) | (split <;> simp_all; done) | simp_all) ?_
       refine omv ?_
       refine oy rfl (by first | (simp; done) | (simp [*]; done) | (split <;> simp_all; done) | simp_all) ?_
       refine ov vbs ?_
       refine oy rfl (by first | (simp; done) | (simp [*]; done) | (split <;> simp_all; done) | simp_all) ?_
       refine ov veqS ?_
       refine ov (V_pick_t rfl (by first | (simp; done) | (simp [*]; done) | (split <;> simp_all; done) | simp_all) rfl) ?_
       refine omv ?_
       refine oy rfl (by first | (simp; done) | (simp [*]; done) | (split <;> simp_all; done) | simp_all) ?_
       refine omv ?_
       refine oy rfl (by first | (simp; done) | (simp [*]; done) | (split <;> simp_all; done) | simp_all) ?_
       refine omv ?_
       refine oy rfl (by first | (simp; done) | (simp [*]; done) | (split <;> simp_all; done) | simp_all) ?_
       refine ov (v2 V_eql) ?_
       refine ov (V_pick_t rfl (by first | (simp; done) | (simp [*]; done) | (split <;> simp_all; done) | simp_all) rfl) ?_
       refine oas ?_
       refine nq ?_
       refine W.ret ?_
       refine WQ.ret1 Try.results8 (.tmp rfl) ?_
       intro w' hp; exact ⟨by first | rfl | (simp; done) | (simp [*]; done) | simp_all, hp.forget⟩
     · refine dr (.q 0 (.q 1 (.q 2 (.q 3 (.q 4 (.q 7 (.q 8 (.l 5 (.l 6 (.q 9 (.q 10 (.done)))))))))))) [(b12, _)] ?_
       refine dq rfl (V_move rfl) ?_
       refine dq rfl (v2 V_eql) ?_
       refine dq rfl (V_move rfl) ?_
       refine dy rfl rfl (by simp [hlt]) (vlda 32) ?_
       refine dy rfl rfl (by simp [hlt]) (V_move rfl) ?_
       refine dy rfl rfl (by simp [hlt]) (V_move rfl) ?_
       refine dy rfl rfl (by simp [hlt]) vbs ?_
       refine WD.l ?_
       refine dcg rfl rfl (fun w hp => pack_calls _ sc _ _ _ _ w sw sc) (fun b54 h54 => ?_) (hg := gy rfl (by simp [hlt]))
       refine WD.l ?_
       refine dvy rfl (gy rfl (by simp [hlt])) vbs ?_
       refine dy rfl rfl (by simp [hlt]) vneS ?_
       refine dq rfl (V_pick_t rfl (by simp [hlt]) rfl) ?_
       refine WD.done ?_
       refine WQ.then ?_
       refine W.cond_false rfl (by have := SrW.ilen hs2; simp [key_drop (show 32 ≤ l2.length by omega)]) ?_
       refine W.skip ?_
       refine WQ.then ?_
       refine sr ?_
       refine omv ?_
       refine omv ?_
       refine oy rfl rfl ?_
       refine omv ?_
       refine oy rfl rfl ?_
       refine ov vlenS ?_
       refine oy rfl rfl ?_
       refine omv ?_
       refine oy rfl rfl ?_
       refine ov vlenS ?_
       refine oy rfl rfl ?_
       first | refine ov vaddN ?_ | refine ov vadd ?_
       refine oy rfl rfl ?_
       refine ov (v2 V_eql) ?_
       refine ov (V_pick_t rfl rfl rfl) ?_
       refine omv ?_
       refine oy rfl (by simp; omega) ?_
       refine ov (vlda 32) ?_
       refine oy rfl (by simp; omega) ?_
       refine ov (vlda 32) ?_
       refine oy rfl (by simp; omega) ?_
       refine ov (veqlI 3 32 .u8) ?_
       refine ov (V_pick_t rfl (by simp; omega) rfl) ?_
       refine omv ?_
       refine oy rfl (by simp [keyF_app ho]) ?_
       refine omv ?_
       refine oy rfl (by simp [keyF_app ho]) ?_
       refine ov vbs ?_
       refine oy rfl (by simp [keyF_app ho]) ?_
       refine omv ?_
       refine oy rfl (by simp [keyF_app ho]) ?_
       refine ov vbs ?_
       refine oy rfl (by simp [keyF_app ho]) ?_
       refine ov veqS ?_
       refine ov (V_pick_t rfl (by simp [keyF_app ho]) rfl) ?_
       refine omv ?_
       refine oy rfl (by simp [drop_app ho]) ?_
       refine omv ?_
       refine oy rfl (by simp [drop_app ho]) ?_
       refine ov (v2 V_eql) ?_
       refine ov (V_pick_t rfl (by simp [drop_app ho]) rfl) ?_
       refine omv ?_
       refine oy rfl (by first | (simp; done) | (simp [*]; done) | (split <;> simp_all; done) | simp_all) ?_
       refine ov (vlda 32) ?_
       refine oy rfl (by first | (simp; done) | (simp [*]; done) | (split <;> simp_all; done) | simp_all) ?_
       refine ov (vlda 32) ?_
       refine oy rfl (by first | (simp; done) | (simp [*]; done) | (split <;> simp_all; done) | simp_all) ?_
       refine ov (veqlI 3 32 .u8) ?_
       refine ov (V_pick_t rfl (by first | (simp; done) | (simp [*]; done) | (split <;> simp_all; done) | simp_all) rfl) ?_
       refine omv ?_
       refine oy rfl (by first | (simp; done) | (simp [*]; done) | (split <;> simp_all; done) | simp_all) ?_
       refine omv ?_
       refine oy rfl (by first | (simp; done) | (simp [*]; done) | (split <;> simp_all; done) | simp_all) ?_
       refine ov vbs ?_
       refine oy rfl (by first | (simp; done) | (simp [*]; done) | (split <;> simp_all; done) | simp_all) ?_
       refine omv ?_
       refine oy rfl (by first | (simp; done) | (simp [*]; done) | (split <;> simp_all; done) | simp_all) ?_
       refine ov vbs ?_
       refine oy rfl (by first | (simp; done) | (simp [*]; done) | (split <;> simp_all; done) | simp_all) ?_
       refine ov veqS ?_
       refine ov (V_pick_t rfl (by first | (simp; done) | (simp [*]; done) | (split <;> simp_all; done) | simp_all) rfl) ?_
       refine omv ?_
       refine oy rfl (by first | (simp; done) | (simp [*]; done) | (split <;> simp_all; done) | simp_all) ?_
       refine omv ?_
       refine oy rfl (by first | (simp; done) | (simp [*]; done) | (split <;> simp_all; done) | simp_all) ?_
       refine omv ?_
       refine oy rfl (by first | (simp; done) | (simp [*]; done) | (split <;> simp_all; done) | simp_all) ?_
       refine ov (v2 V_eql) ?_
       refine ov (V_pick_t rfl (by first | (simp; done) | (simp [*]; done) | (split <;> simp_all; done) | simp_all) rfl) ?_
       refine oas ?_
       refine nq ?_
       refine W.ret ?_
       refine WQ.ret1 Try.results8 (.tmp rfl) ?_
       intro w' hp; exact ⟨by first | rfl | (simp; done) | (simp [*]; done) | simp_all, hp.forget⟩

end Go.Proofs.Ytbalnjejamigaaa