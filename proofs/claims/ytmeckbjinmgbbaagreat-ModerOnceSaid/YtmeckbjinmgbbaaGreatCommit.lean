/- commit: what commits to texts, openings and texts packed. -/
import Derived.Test.YtmeckbjinmgbbaaGreatJoin2
import Derived.Test.YtmeckbjinmgbbaaGreatRMac
import Derived.Test.YtmeckbjinmgbbaaGreatXB
set_option linter.unusedVariables false
set_option linter.unusedSimpArgs false

namespace Go.Proofs.YtmeckbjinmgbbaaGreat
open Go.X
def keyF (l : List Int) : List Int := if l.length < 32 then List.replicate 32 0 else l.take 32
@[simp] theorem keyF_len {l : List Int} : (keyF l).length = 32 := by unfold keyF; split <;> simp; omega
theorem keyF_bytes {l : List Int} (h : bytes l) : bytes (keyF l) := by unfold keyF; split; exact rep_bytes; exact h.take _
attribute [simp] rep_bytes keyF_bytes
theorem bytes_all {l : List Int} (h : bytes l) : allB l := h
attribute [simp] bytes_all

theorem rtag_calls (BA : Option Addr) (m bcap : Nat) (kl bl : List Int) (w : World) (hk : kl.length = 32) (hkb : bytes kl) (hb0 : SrW w 1 BA m (iv .u8 bl)) (hbb : bytes bl) (hbc : m ≤ bcap) (hm : m ≤ 4000000) :
    Calls Tryz.prog 113 [AG [(32, iv .u8 kl)], .slice BA m bcap].toArray w fun e w' => e = .returned (AG [(32, iv .u8 (macF kl bl))]) ∧ HP w w' [] [] := by
 refine calls_of_W Tryz.func113 rfl Tryz.ntmps113 rfl rfl (HP.refl w []) ?_
 refine sr ?_
 refine obxa (fun b2 => ?_)
 refine oal [(32, List.replicate 32 (.int .u8 0))] (fun b4 => ?_)
 refine nx ?_
 refine ov (vslF 1 32) ?_
 refine omv ?_
 refine cp rfl (fun w hp => rmac_calls _ _ _ _ _ _ _ _ w sw sc sc sc sw sc sc sc) ?_
 refine omv ?_
 refine ov vex ?_
 refine ov vex ?_
 refine oal [(32, List.replicate 32 (.int .u8 0))] (fun b5 => ?_)
 refine osta 32 ?_
 refine oas ?_
 refine nx ?_
 refine ov (vlda 32) ?_
 refine osta 32 ?_
 refine nq ?_
 refine W.ret ?_
 refine WQ.ret1 Tryz.results113 (.cellA 32 (by kernel_rfl) rfl at_ (by rfl)) ?_
 intro w' hp; exact ⟨by first | rfl | (simp; done) | (simp [*]; done) | simp_all, hp.forget⟩

theorem of_calls (ol : List Int) (ho : ol.length = 32) (hob : bytes ol) (A : Option Addr) (n cap : Nat) (ll : List (List Int)) (w : World) (hr : Rows w A n ll) (hlb : ∀ l ∈ ll, bytes l) (hj : (joinF ll).length ≤ 4000000) :
    Calls Tryz.prog 111 [AG [(32, iv .u8 ol)], .slice A n cap].toArray w fun e w' => e = .returned (AG [(32, iv .u8 ol), (32, iv .u8 (macF ol (joinF ll)))]) ∧ HP w w' [] [] := by
 have hjb := joinF_bytes hlb
 refine calls_of_W Tryz.func111 rfl Tryz.ntmps111 rfl rfl (HP.refl w []) ?_
 refine sr ?_
 refine obxa (fun b2 => ?_)
 refine oal [(32, List.replicate 32 (.int .u8 0)), (32, List.replicate 32 (.int .u8 0))] (fun b4 => ?_)
 refine nq ?_
 refine W.seq ?_
 apply W.j3
 · intro hJ
   refine dr (.q 0 (.q 1 (.l2 2 (.l2 3 (.q 4 (.q 5 (.q 6 (.l 7 (.l 8 (.q 9 (.done))))))) 7 (.l 3 (.q 4 (.q 5 (.q 6 (.l 8 (.q 9 (.done)))))))) 7 (.l 2 (.l 3 (.q 4 (.q 5 (.q 6 (.l 8 (.q 9 (.done))))))))))) [] ?_
   refine dq rfl (vslF 1 32) ?_
   refine dq rfl (V_move rfl) ?_
   refine WD.l2 ?_ ?_
   · refine dcgG rfl rfl (fun w hp => join_calls _ _ _ _ w rws sc) (fun o10 h10 => ?_)
     refine WD.l2 ?_ ?_
     · refine dcp rfl rfl (fun w hp => mac_calls _ _ _ _ _ _ _ _ w sw sc sc sc sw sc sc sc) ?_
       refine dq rfl (V_move rfl) ?_
       refine dq rfl vex ?_
       refine dq rfl vex ?_
       refine WD.l ?_
       refine dal rfl [(32, List.replicate 32 (.int .u8 0))] (fun b5 => ?_)
       refine WD.l ?_
       refine dsta rfl 32 ?_
       refine dq rfl (V_assign rfl) ?_
       refine WD.done ?_
       exact WQ.pick (S' := [(0, _), (2, _), (4, _), (5, _)]) [0, 2, 4, 5] rfl (hJ b5 o10 h10)
     · refine dal rfl [(32, List.replicate 32 (.int .u8 0))] (fun b5 => ?_)
       refine WD.l ?_
       refine dcp rfl rfl (fun w hp => mac_calls _ _ _ _ _ _ _ _ w sw sc sc sc sw sc sc sc) ?_
       refine dq rfl (V_move rfl) ?_
       refine dq rfl vex ?_
       refine dq rfl vex ?_
       refine WD.l ?_
       refine dsta rfl 32 ?_
       refine dq rfl (V_assign rfl) ?_
       refine WD.done ?_
       exact WQ.pick (S' := [(0, _), (2, _), (4, _), (5, _)]) [0, 2, 4, 5] rfl (hJ b5 o10 h10)
   · refine dal rfl [(32, List.replicate 32 (.int .u8 0))] (fun b5 => ?_)
     refine WD.l ?_
     refine dcgG rfl rfl (fun w hp => join_calls _ _ _ _ w rws sc) (fun o10 h10 => ?_)
     refine WD.l ?_
     refine dcp rfl rfl (fun w hp => mac_calls _ _ _ _ _ _ _ _ w sw sc sc sc sw sc sc sc) ?_
     refine dq rfl (V_move rfl) ?_
     refine dq rfl vex ?_
     refine dq rfl vex ?_
     refine WD.l ?_
     refine dsta rfl 32 ?_
     refine dq rfl (V_assign rfl) ?_
     refine WD.done ?_
     exact WQ.pick (S' := [(0, _), (2, _), (4, _), (5, _)]) [0, 2, 4, 5] rfl (hJ b5 o10 h10)
 intro b5 o10 h10
 refine WQ.then ?_
 refine sr ?_
 refine ov (vlda 32) ?_
 refine ov (vlda 32) ?_
 refine ov (V_build (by kernel_rfl) (zi (zs := [(32, List.replicate 32 (.int .u8 0)), (32, List.replicate 32 (.int .u8 0))])) (.agg (k := 0) (n := 32) rfl fit fln (by kernel_rfl) rfl (.agg (k := 32) (n := 32) rfl fit fln (by kernel_rfl) rfl (.nil _)))) ?_
 refine osta 64 ?_
 refine nq ?_
 refine W.ret ?_
 refine WQ.ret1 Tryz.results111 (.cellA 64 (by kernel_rfl) rfl at_ (by rfl)) ?_
 intro w' hp; exact ⟨by first | rfl | (simp; done) | (simp [*]; done) | simp_all, hp.forget⟩

theorem rmake_calls (ol : List Int) (ho : ol.length = 32) (hob : bytes ol) (A : Option Addr) (n cap : Nat) (ll : List (List Int)) (w : World) (hr : Rows w A n ll) (hlb : ∀ l ∈ ll, bytes l) (hj : (joinF ll).length ≤ 4000000) :
    Calls Tryz.prog 76 [AG [(32, iv .u8 ol)], .slice A n cap].toArray w fun e w' => e = .returned (AG [(32, iv .u8 (macF ol (joinF ll)))]) ∧ HP w w' [] [] := by
 have hjb := joinF_bytes hlb
 refine calls_of_W Tryz.func76 rfl Tryz.ntmps76 rfl rfl (HP.refl w []) ?_
 refine sr ?_
 refine obxa (fun b2 => ?_)
 refine oal [(32, List.replicate 32 (.int .u8 0))] (fun b4 => ?_)
 refine nq ?_
 refine W.seq ?_
 refine dr (.q 0 (.q 1 (.l 2 (.l 3 (.l 4 (.done)))))) [(b2, _)] ?_
 refine dq rfl (vlda 32) ?_
 refine dq rfl (V_move rfl) ?_
 refine WD.l ?_
 refine dcgG rfl rfl (fun w hp => rjoin_calls _ _ _ _ w rws sc) (fun o7 h7 => ?_)
 refine WD.l ?_
 refine dcp rfl rfl (fun w hp => rtag_calls _ _ _ _ _ w sc sc sw sc sc sc) ?_
 refine WD.l ?_
 refine dsta rfl 32 ?_
 refine WD.done ?_
 refine WQ.then ?_
 refine W.ret ?_
 refine WQ.ret1 Tryz.results76 (.cellA 32 (by kernel_rfl) rfl at_ (by rfl)) ?_
 intro w' hp; exact ⟨by first | rfl | (simp; done) | (simp [*]; done) | simp_all, hp.forget⟩

theorem check_calls14 (cl ol : List Int) (hcl : cl.length = 32) (ho : ol.length = 32) (hob : bytes ol) (A : Option Addr) (n cap : Nat) (ll : List (List Int)) (w : World) (hr : Rows w A n ll) (hlb : ∀ l ∈ ll, bytes l) (hj : (joinF ll).length ≤ 4000000) :
    Calls Tryz.prog 69 [AG [(32, iv .u8 cl)], AG [(32, iv .u8 ol)], .slice A n cap].toArray w fun e w' => e = .returned (.int .i64 (if macF ol (joinF ll) = cl then 0 else 4)) ∧ HP w w' [] [] := by
 refine calls_of_W Tryz.func69 rfl Tryz.ntmps69 rfl rfl (HP.refl w []) ?_
 refine sr ?_
 refine obxa (fun b3 => ?_)
 refine obxa (fun b4 => ?_)
 refine oas ?_
 refine nq ?_
 refine W.seq ?_
 refine W.seq ?_
 refine dr (.q 0 (.q 1 (.q 3 (.q 4 (.q 5 (.l 2 (.q 6 (.done)))))))) [(b4, _), (b3, _)] ?_
 refine dq rfl (vlda 32) ?_
 refine dq rfl (V_move rfl) ?_
 refine dq rfl (vlda 32) ?_
 refine dq rfl (vlda 32) ?_
 refine dq rfl (V_build (by kernel_rfl) (zi (zs := [(32, List.replicate 32 (.int .u8 0)), (32, List.replicate 32 (.int .u8 0))])) (.agg (k := 0) (n := 32) rfl fit fln (by kernel_rfl) rfl (.agg (k := 32) (n := 32) rfl fit fln (by kernel_rfl) rfl (.nil _)))) ?_
 refine WD.l ?_
 refine dcp rfl rfl (fun w hp => of_calls _ sc sc _ _ _ _ w rws sc sc) ?_
 refine dq rfl (vneA [(32, 6), (32, 6)]) ?_
 refine WD.done ?_
 refine WQ.then ?_
 refine W.cond rfl (fun g1 => ?_) (fun g1 => ?_)
 · refine W.seq ?_
   refine W.region ?_
   refine oas ?_
   refine nq ?_
   refine W.ret ?_
   refine WQ.then_ret ?_
   refine WQ.ret1 Tryz.results69 (.tmp rfl) ?_
   intro w' hp; rw [if_neg (by simpa using g1)]; exact ⟨rfl, hp.cov cov⟩
 · refine W.skip ?_
   refine WQ.then ?_
   refine sr ?_
   refine oas ?_
   refine nq ?_
   refine W.ret ?_
   refine WQ.ret1 Tryz.results69 (.tmp rfl) ?_
   intro w' hp; rw [if_pos (by simpa using g1)]; exact ⟨rfl, hp.cov cov⟩

end Go.Proofs.YtmeckbjinmgbbaaGreat