/- RelayOnce: its walk. -/
import Derived.Test.YtmeckbjinmgbbaaOps
set_option linter.unusedVariables false
set_option linter.unusedSimpArgs false

namespace Go.Proofs.Ytmeckbjinmgbbaa
open Go.X
def nw1 (n : Int) (ks : List (List Int)) : AAcc := AAcc.new (lnk n) (bid n) (bsg n) ks
structure O1 (p : Nat) (ks : List (List Int)) (i : Nat) (a : PAcc) : Prop where
  ok : POK a
  p : a.p = p
  abs : a.abs = nw1 3 (ks.drop i)
theorem O1.next {p : Nat} {ks : List (List Int)} {i : Nat} {a b : PAcc} (h : O1 p ks i a) (hb : POK b ∧ b.p = a.p ∧ b.abs = fetL a.abs) : O1 p ks (i + 1) b :=
  ⟨hb.1, hb.2.1.trans h.p, by rw [hb.2.2, h.abs]; simp [fetL, nw1, AAcc.new]⟩
theorem O1.yes {p : Nat} {ks : List (List Int)} {i : Nat} {a : PAcc} {k : List Int} (h : O1 p ks i a) (hk : ks[i]? = some k) : bunA a.abs = bunV (bid 3) (bsg 3) k true := by
  obtain ⟨h1, h2⟩ := List.getElem?_eq_some_iff.1 hk
  subst h2
  rw [h.abs, List.drop_eq_getElem_cons h1]; rfl
theorem O1.no {p : Nat} {ks : List (List Int)} {i : Nat} {a : PAcc} (h : O1 p ks i a) (hk : ks.length ≤ i) : bunA a.abs = bunV (bid 3) (bsg 3) (List.replicate 32 0) false := by
  rw [h.abs, List.drop_of_length_le hk]; rfl

set_option maxRecDepth 8000 in
set_option maxHeartbeats 1000000 in
theorem relayOnce_calls (l0 : List Int) (e0 : l0.length = 32) (A : Option Addr) (n cap : Nat) (ks : List (List Int)) (a2 : Int) (w0 : World) (hs : SrW w0 32 A n (ks.flatMap (iv .u8))) (hkl : n = ks.length) (hk32 : ∀ k ∈ ks, k.length = 32) (hcap : n ≤ cap) :
    Calls Try.prog 5 [AG [(32, iv .u8 l0)], .slice A n cap, .int .i64 a2].toArray w0 fun e w' => e = .returned (.bool true) ∧ HP w0 w' [] [] := by
 have hb1 : (bid 3).length = 32 := rfl
 have hb2 : (bsg 3).length = 32 := rfl
 refine calls_of_W Try.func5 rfl Try.ntmps5 rfl rfl (HP.refl w0 []) ?_
 refine sr ?_
 refine obxa (fun b3 => ?_)
 refine oas ?_
 refine nx ?_
 refine cp rfl (fun w hp => awake20_calls w) ?_
 refine oas ?_
 refine nx ?_
 refine ov (vlda 32) ?_
 refine cg rfl (fun w hp => new20_calls l0 5 e0 (by decide) w) (fun b19 h19 => ?_)
 refine omv ?_
 refine ov vex ?_
 refine ov vex ?_
 refine oas ?_
 refine oas ?_
 refine nq ?_
 refine W.seq ?_
 refine sr ?_
 refine omv ?_
 refine ov (V_eqlP (by kernel_rfl) rfl rfl) ?_
 refine omv ?_
 refine oy rfl rfl ?_
 refine omv ?_
 refine oy rfl rfl ?_
 refine ov vlenS ?_
 refine oy rfl rfl ?_
 refine ov (v2 V_gtr) ?_
 refine ov (V_pick_f rfl rfl rfl) ?_
 refine omv ?_
 refine WL.splitD rfl (fun g1 => ?_) (fun g1 => ?_)
 · refine on rfl (decide_eq_true g1) ?_
   refine on rfl (decide_eq_true g1) ?_
   refine ov (V_pick_td rfl g1 rfl) ?_
   refine omv ?_
   refine on rfl rfl ?_
   refine on rfl rfl ?_
   refine ov (V_pick_t rfl rfl rfl) ?_
   refine nq ?_
   refine W.cond_true rfl rfl ?_
   refine sr ?_
   refine omv ?_
   refine omv ?_
   refine oy rfl rfl ?_
   refine omv ?_
   refine oy rfl rfl ?_
   refine ov (V_neqP (by kernel_rfl) rfl rfl) ?_
   refine ov (V_pick_t rfl rfl rfl) ?_
   refine oas ?_
   refine nq ?_
   refine W.ret ?_
   refine WQ.then_ret ?_
   refine WQ.ret1 Try.results5 (.tmp rfl) ?_
   intro w' hp; exact ⟨rfl, hp.forget⟩
 · refine oy rfl (decide_eq_false g1) ?_
   refine omv ?_
   refine oy rfl (decide_eq_false g1) ?_
   refine ov (v2 V_lss) ?_
   refine ov (V_pick_fd rfl g1 rfl) ?_
   refine omv ?_
   refine WL.splitD rfl (fun g2 => ?_) (fun g2 => ?_)
   · refine on rfl (decide_eq_true g2) ?_
     refine on rfl (decide_eq_true g2) ?_
     refine ov (V_pick_td rfl g2 rfl) ?_
     refine nq ?_
     refine W.cond_true rfl rfl ?_
     refine sr ?_
     refine omv ?_
     refine omv ?_
     refine oy rfl rfl ?_
     refine omv ?_
     refine oy rfl rfl ?_
     refine ov (V_neqP (by kernel_rfl) rfl rfl) ?_
     refine ov (V_pick_t rfl rfl rfl) ?_
     refine oas ?_
     refine nq ?_
     refine W.ret ?_
     refine WQ.then_ret ?_
     refine WQ.ret1 Try.results5 (.tmp rfl) ?_
     intro w' hp; exact ⟨rfl, hp.forget⟩
   · refine oy rfl (decide_eq_false g2) ?_
     refine omv ?_
     refine oy rfl (decide_eq_false g2) ?_
     refine ov (v2 V_gtr) ?_
     refine ov (V_pick_fd rfl g2 rfl) ?_
     refine nq ?_
     refine W.cond_dec rfl (fun g3 => ?_) (fun g3 => ?_)
     · refine W.seq ?_
       refine W.region ?_
       refine omv ?_
       refine omv ?_
       refine oy rfl rfl ?_
       refine omv ?_
       refine oy rfl rfl ?_
       refine ov (V_neqP (by kernel_rfl) rfl rfl) ?_
       refine ov (V_pick_t rfl rfl rfl) ?_
       refine oas ?_
       refine nq ?_
       refine W.ret ?_
       refine WQ.then_ret ?_
       refine WQ.ret1 Try.results5 (.tmp rfl) ?_
       intro w' hp; exact ⟨rfl, hp.forget⟩
     · refine W.skip ?_
       refine WQ.then ?_
       refine sr ?_
       refine omv ?_
       refine cp rfl (fun w hp => link20_calls 3 w) ?_
       refine cp rfl (fun w hp => bundle20_calls 3 w) ?_
       refine omv ?_
       refine cgP _ rfl (fun w hp => reg20_calls b19.2.r b19.1 (List.replicate 8 none) rfl 3 (lnk 3) (bid 3) (bsg 3) bk3 true A n cap ks lnk_len lnk_bytes rfl rfl rfl (by decide) rfl hkl hcap (by omega) hk32 w (HP.here hp cov) (fun w1 M h1 => Sr.pastP hp h1 (hs := by exact hs.old0))) (fun r46 h46 => ?_)
       simp only [List.cons_append, List.nil_append, List.append_nil, List.append_assoc]
       refine WL.back (stpL b19.2 5 l0 [] 0) ?_
       simp only [List.cons_append, List.nil_append, List.append_nil, List.append_assoc]
       refine WL.back (accP r46) ?_
       simp only [List.cons_append, List.nil_append, List.append_nil, List.append_assoc]
       rw [show (List.replicate 8 none).set (3 : Int).toNat (some r46.p) = [none, none, none, some r46.p, none, none, none, none] from rfl]
       refine oas ?_
       refine nx ?_
       refine omv ?_
       refine cp rfl (fun w hp => link20_calls 4 w) ?_
       refine cp rfl (fun w hp => bundle20_calls 4 w) ?_
       refine cp rfl (fun w hp => reg20_twice b19.2.r b19.1 [none, none, none, some r46.p, none, none, none, none] rfl 3 (lnk 4) (bid 4) (bsg 4) bk3 true none 0 0 [] lnk_len lnk_bytes rfl rfl rfl r46.p (by decide) rfl (by decide) w hat) ?_
       refine oas ?_
       refine nq ?_
       refine W.seq ?_
       refine W.seq ?_
       obtain ⟨n2, rfl⟩ : ∃ n : Nat, a2 = n := ⟨a2.toNat, by omega⟩
       refine W.region ?_
       refine oas ?_
       refine nq ?_
       refine W.block ?_
       -- LOOP 0
       refine W.pick (S' := [(12, _), (0, _), (1, _), (2, _), (3, _), (6, _), (7, _), (8, _), (10, _), (11, _), (36, _)]) [12, 0, 1, 2, 3, 6, 7, 8, 10, 11, 36] rfl ?_
       refine W.loopG (σ := Nat × PAcc) (fun ⟨i, a⟩ => i ≤ n + n2 ∧ O1 r46.p ks i a) (fun ⟨i, a⟩ => [(12, .int .i64 (i : Nat))]) (fun ⟨i, a⟩ => [(b19.1, .cells (relS b19.2.r [none, none, none, some r46.p, none, none, none, none]) 110)]) [(b3, _)] (fun ⟨i, a⟩ => stpL b19.2 5 l0 [] 0 ++ accP a) (fun ⟨i, a⟩ => n + n2 - i) (0, r46) rfl cov ⟨Nat.zero_le _, h46.1, rfl, h46.2⟩ ?_
       rintro ⟨i, a⟩ ⟨hi, hO⟩; dsimp only at hi hO ⊢
       refine W.seq ?_
       refine sr ?_
       refine omv ?_
       refine omv ?_
       refine ov vlenS ?_
       refine omv ?_
       first | refine ov vaddN ?_ | refine ov vadd ?_
       refine ov (v2 V_lss) ?_
       refine nq ?_
       refine W.cond_dec rfl (fun g4 => ?_) (fun g4 => ?_)
       · refine W.skip ?_
         refine WQ.then ?_
         refine W.seq ?_
         refine W.block ?_
         refine W.seq ?_
         by_cases hin : i < n
         · obtain ⟨k, hk⟩ : ∃ k, ks[i]? = some k := ⟨_, List.getElem?_eq_getElem (by omega)⟩
           have hbn := hO.yes hk
           have hkk := hk32 k (List.mem_of_getElem? hk)
           obtain ⟨bA, oA, rfl⟩ := hs.one'.hasN (by omega)
           refine W.region ?_
           refine omv ?_
           refine cgP _ rfl (fun w hp => fet20_calls b19.2.r b19.1 [none, none, none, some r46.p, none, none, none, none] rfl 3 a hO.ok (by rw [hO.p]; rfl) w (HP.here hp cov)) (fun r61 h61 => ?_)
           simp only [List.cons_append, List.nil_append, List.append_nil, List.append_assoc]
           refine WL.back (accP r61) ?_
           simp only [List.cons_append, List.nil_append, List.append_nil, List.append_assoc]
           rw [hbn]
           unfold bunV
           refine omv ?_
           refine ov vex ?_
           refine ov vex ?_
           refine oal [(32, List.replicate 32 (.int .u8 0)), (32, List.replicate 32 (.int .u8 0)), (32, List.replicate 32 (.int .u8 0)), (1, [.bool false])] (fun b13 => ?_)
           refine osta 97 ?_
           refine oas ?_
           refine nx ?_
           refine cp rfl (fun w hp => bundle20_calls 3 w) ?_
           refine ov (vfda 0 32) ?_
           refine cp rfl (fun w hp => bundle20_calls 3 w) ?_
           refine ov (vfda 32 32) ?_
           refine ov (V_build (by kernel_rfl) (zi (zs := [(32, List.replicate 32 (.int .u8 0)), (32, List.replicate 32 (.int .u8 0)), (32, List.replicate 32 (.int .u8 0)), (1, [.bool false])])) (.agg (k := 0) (n := 32) rfl fit fln (by kernel_rfl) rfl (.agg (k := 32) (n := 32) rfl fit fln (by kernel_rfl) rfl (.nil _)))) ?_
           refine oal [(32, List.replicate 32 (.int .u8 0)), (32, List.replicate 32 (.int .u8 0)), (32, List.replicate 32 (.int .u8 0)), (1, [.bool false])] (fun b15 => ?_)
           refine osta 97 ?_
           refine nq ?_
           refine W.seq ?_
           refine sr ?_
           refine omv ?_
           refine omv ?_
           refine ov vlenS ?_
           refine ov (v2 V_lss) ?_
           refine nq ?_
           refine W.cond_true rfl (decide_eq_true (by omega)) ?_
           refine sr ?_
           refine omv ?_
           refine omv ?_
           refine ov (viO 32) ?_
           refine ov (vldOAs' 32 i (f := iv .u8) (ds := [(32, iv .u8 k)]) (fun x hx => by rw [iv_len]; exact hk32 x hx) (fun w hp => hs.old0 w hp) hk (by simp [flat])) ?_
           refine ov (vfa0 64 32) ?_
           refine osta 32 ?_
           refine nq ?_
           refine W.region ?_
           refine ov (vfa0 96 1) ?_
           refine ost ?_
           refine nx ?_
           refine omv ?_
           refine ov (v2 V_neq) ?_
           refine omv ?_
           refine oy rfl rfl ?_
           refine ov (vlda 97) ?_
           refine oy rfl rfl ?_
           refine ov (vlda 97) ?_
           refine oy rfl rfl ?_
           refine ov (vneA [(32, 6), (32, 6), (32, 6), (1, 1)]) ?_
           refine ov (V_pick_f rfl rfl rfl) ?_
           refine nq ?_
           refine W.cond_false rfl (by first | (simp; done) | rfl | (rw [← iv_rep]; simp; done)) ?_
           refine W.skip ?_
           refine WQ.block_normal ?_
           refine WQ.then ?_
           refine W.region ?_
           refine omv ?_
           first | refine ov vaddN ?_ | refine ov vadd ?_
           refine oas ?_
           refine WL.nil ?_
           exact ag ((i + 1, r61)) [12, 0, 1, 2, 3, 6, 7, 8, 10, 11, 36] (by (try dsimp only); exact ⟨by omega, hO.next h61⟩) (by (try dsimp only); omega) rfl cov
         · have hbn := hO.no (by omega)
           refine W.region ?_
           refine omv ?_
           refine cgP _ rfl (fun w hp => fet20_calls b19.2.r b19.1 [none, none, none, some r46.p, none, none, none, none] rfl 3 a hO.ok (by rw [hO.p]; rfl) w (HP.here hp cov)) (fun r61 h61 => ?_)
           simp only [List.cons_append, List.nil_append, List.append_nil, List.append_assoc]
           refine WL.back (accP r61) ?_
           simp only [List.cons_append, List.nil_append, List.append_nil, List.append_assoc]
           rw [hbn]
           unfold bunV
           refine omv ?_
           refine ov vex ?_
           refine ov vex ?_
           refine oal [(32, List.replicate 32 (.int .u8 0)), (32, List.replicate 32 (.int .u8 0)), (32, List.replicate 32 (.int .u8 0)), (1, [.bool false])] (fun b13 => ?_)
           refine osta 97 ?_
           refine oas ?_
           refine nx ?_
           refine cp rfl (fun w hp => bundle20_calls 3 w) ?_
           refine ov (vfda 0 32) ?_
           refine cp rfl (fun w hp => bundle20_calls 3 w) ?_
           refine ov (vfda 32 32) ?_
           refine ov (V_build (by kernel_rfl) (zi (zs := [(32, List.replicate 32 (.int .u8 0)), (32, List.replicate 32 (.int .u8 0)), (32, List.replicate 32 (.int .u8 0)), (1, [.bool false])])) (.agg (k := 0) (n := 32) rfl fit fln (by kernel_rfl) rfl (.agg (k := 32) (n := 32) rfl fit fln (by kernel_rfl) rfl (.nil _)))) ?_
           refine oal [(32, List.replicate 32 (.int .u8 0)), (32, List.replicate 32 (.int .u8 0)), (32, List.replicate 32 (.int .u8 0)), (1, [.bool false])] (fun b15 => ?_)
           refine osta 97 ?_
           refine nq ?_
           refine W.seq ?_
           refine sr ?_
           refine omv ?_
           refine omv ?_
           refine ov vlenS ?_
           refine ov (v2 V_lss) ?_
           refine nq ?_
           refine W.cond_false rfl (decide_eq_false (by omega)) ?_
           refine W.skip ?_
           refine WQ.then ?_
           refine sr ?_
           refine omv ?_
           refine ov (v2 V_neq) ?_
           refine omv ?_
           refine oy rfl rfl ?_
           refine ov (vlda 97) ?_
           refine oy rfl rfl ?_
           refine ov (vlda 97) ?_
           refine oy rfl rfl ?_
           refine ov (vneA [(32, 6), (32, 6), (32, 6), (1, 1)]) ?_
           refine ov (V_pick_f rfl rfl rfl) ?_
           refine nq ?_
           refine W.cond_false rfl (by first | (simp; done) | rfl | (rw [← iv_rep]; simp; done)) ?_
           refine W.skip ?_
           refine WQ.block_normal ?_
           refine WQ.then ?_
           refine W.region ?_
           refine omv ?_
           first | refine ov vaddN ?_ | refine ov vadd ?_
           refine oas ?_
           refine WL.nil ?_
           exact ag ((i + 1, r61)) [12, 0, 1, 2, 3, 6, 7, 8, 10, 11, 36] (by (try dsimp only); exact ⟨by omega, hO.next h61⟩) (by (try dsimp only); omega) rfl cov
       · refine W.exit ?_
         refine WQ.then_exit ?_
         refine WQ.then_exit ?_
         refine WQ.block_hit ?_
         refine WQ.then ?_
         refine sr ?_
         refine omv ?_
         refine omv ?_
         refine oy rfl rfl ?_
         refine omv ?_
         refine oy rfl rfl ?_
         refine ov (v2 V_eql) ?_
         refine ov (V_pick_t rfl rfl rfl) ?_
         refine omv ?_
         refine oy rfl rfl ?_
         refine omv ?_
         refine oy rfl rfl ?_
         refine ov (v2 V_eql) ?_
         refine ov (V_pick_t rfl rfl rfl) ?_
         refine oas ?_
         refine nq ?_
         refine W.ret ?_
         refine WQ.ret1 Try.results5 (.tmp rfl) ?_
         intro w' hp; exact ⟨rfl, hp.forget⟩

end Go.Proofs.Ytmeckbjinmgbbaa