/- stamp: what a relay says of envelopes. -/
import Derived.Test.YtmeckbjinmgbbaaGreatCommit
import Derived.Test.YtmeckbjinmgbbaaGreatXB
set_option linter.unusedVariables false
set_option linter.unusedSimpArgs false

namespace Go.Proofs.YtmeckbjinmgbbaaGreat
open Go.X
structure StampS where
  epoch : Int
  fr : Int
  to : Int
  time : Int
  commit : List Int
  tag : List Int
def stV (s : StampS) : List Seg := [(1, [.int .i64 s.epoch]), (1, [.int .i64 s.fr]), (1, [.int .i64 s.to]), (1, [.int .i64 s.time]), (32, iv .u8 s.commit), (32, iv .u8 s.tag)]
def timeB (n : Int) : Bool := decide (0 ≤ n) && decide (n ≤ 1000000)
def acB (n : Int) : Bool := decide (0 ≤ n) && decide (n < 8)
def rightB (s : StampS) : Bool := timeB s.epoch && timeB s.time && acB s.fr && acB s.to
def drawF (root : List Int) (x : Int) : List Int := macF root (highF x 4)
@[simp] theorem drawF_len {root : List Int} {x : Int} : (drawF root x).length = 32 := macF_len
@[simp] theorem drawF_bytes {root : List Int} {x : Int} : bytes (drawF root x) := macF_bytes
/-- What a tag is the tag of. -/
def tagL (s : StampS) : List Int := [IntKind.u8.wrap s.fr, IntKind.u8.wrap s.to] ++ highF s.time 4 ++ s.commit
def tagF (root : List Int) (s : StampS) : List Int := macF (drawF root s.epoch) (tagL s)
def Good (root : List Int) (m : List Ent) : Prop := ∀ y v, mget m y = some v → v = AG [(32, iv .u8 (drawF root y))]
theorem Good.nil {root : List Int} : Good root [] := fun y v h => by cases h
theorem Good.put {root : List Int} {m : List Ent} {c : Nat} {x : Int} (h : Good root m) : Good root (mput m c x (AG [(32, iv .u8 (drawF root x))])) := fun y v hv => by
  rw [mget_put] at hv
  split at hv
  · rename_i e; subst e; injection hv with hv; exact hv.symm
  · exact h y v hv
theorem u8_bd (x : Int) : 0 ≤ IntKind.u8.wrap x ∧ IntKind.u8.wrap x ≤ 255 := by rw [IntKind.wrap_u8]; omega
@[simp] theorem u8_0 (x : Int) : 0 ≤ IntKind.u8.wrap x := (u8_bd x).1
@[simp] theorem u8_1 (x : Int) : IntKind.u8.wrap x ≤ 255 := (u8_bd x).2
structure Rel where
  r : Nat
  m : Nat
  v : Nat
  k : Nat
/-- The relay's blocks that stay. -/
structure RelAt (w : World) (R : Rel) (ticks : Int) (root : List Int) : Prop where
  r : AtW w R.r [(1, [.int .i64 ticks]), (1, [.map (some R.m)]), (1, [.func (.func 56) #[] #[.pointer (some ⟨R.v, 0, none⟩), .pointer (some ⟨R.k, 0, none⟩)]])]
  v : AtW w R.v [(1, [.pointer (some ⟨R.r, 0, none⟩)])]
  k : AtW w R.k [(32, iv .u8 root)]

theorem time_calls (n : Int) (w : World) : Calls Tryz.prog 108 [.int .i64 n].toArray w fun e w' => e = .returned (.bool (timeB n)) ∧ HP w w' [] [] := by
 refine calls_of_W Tryz.func108 rfl Tryz.ntmps108 rfl rfl (HP.refl w []) ?_
 refine sr ?_
 refine oas ?_
 refine nx ?_
 refine omv ?_
 refine ov (v2 V_geq) ?_
 refine omv ?_
 refine WL.splitD rfl (fun g1 => ?_) (fun g1 => ?_)
 · refine oy rfl (decide_eq_true g1) ?_
   refine omv ?_
   refine oy rfl (decide_eq_true g1) ?_
   refine ov (v2 V_leq) ?_
   refine ov (V_pick_td rfl g1 rfl) ?_
   refine oas ?_
   refine nq ?_
   refine W.ret ?_
   refine WQ.ret1 Tryz.results108 (.tmp rfl) ?_
   intro w' hp; exact ⟨by simp [timeB, *], hp.forget⟩
 · refine on rfl (decide_eq_false g1) ?_
   refine on rfl (decide_eq_false g1) ?_
   refine ov (V_pick_fd rfl g1 rfl) ?_
   refine oas ?_
   refine nq ?_
   refine W.ret ?_
   refine WQ.ret1 Tryz.results108 (.tmp rfl) ?_
   intro w' hp; exact ⟨by simp [timeB, *], hp.forget⟩

theorem account_calls (n : Int) (w : World) : Calls Tryz.prog 129 [.int .i64 n].toArray w fun e w' => e = .returned (.bool (acB n)) ∧ HP w w' [] [] := by
 refine calls_of_W Tryz.func129 rfl Tryz.ntmps129 rfl rfl (HP.refl w []) ?_
 refine sr ?_
 refine oas ?_
 refine nx ?_
 refine omv ?_
 refine ov (v2 V_geq) ?_
 refine omv ?_
 refine WL.splitD rfl (fun g1 => ?_) (fun g1 => ?_)
 · refine oy rfl (decide_eq_true g1) ?_
   refine omv ?_
   refine oy rfl (decide_eq_true g1) ?_
   refine ov (v2 V_lss) ?_
   refine ov (V_pick_td rfl g1 rfl) ?_
   refine oas ?_
   refine nq ?_
   refine W.ret ?_
   refine WQ.ret1 Tryz.results129 (.tmp rfl) ?_
   intro w' hp; exact ⟨by simp [acB, *], hp.forget⟩
 · refine on rfl (decide_eq_false g1) ?_
   refine on rfl (decide_eq_false g1) ?_
   refine ov (V_pick_fd rfl g1 rfl) ?_
   refine oas ?_
   refine nq ?_
   refine W.ret ?_
   refine WQ.ret1 Tryz.results129 (.tmp rfl) ?_
   intro w' hp; exact ⟨by simp [acB, *], hp.forget⟩

theorem right_calls (s : StampS) (hc : s.commit.length = 32) (ht : s.tag.length = 32) (w : World) : Calls Tryz.prog 107 [AG (stV s)].toArray w fun e w' => e = .returned (.bool (rightB s)) ∧ HP w w' [] [] := by
 unfold stV
 refine calls_of_W Tryz.func107 rfl Tryz.ntmps107 rfl rfl (HP.refl w []) ?_
 refine sr ?_
 refine obxa (fun b1 => ?_)
 refine oas ?_
 refine nx ?_
 refine ov (vfa0 0 1) ?_
 refine ov vld ?_
 refine cp rfl (fun w hp => time_calls _ w) ?_
 refine omv ?_
 refine WL.split rfl (fun g1 => ?_) (fun g1 => ?_)
 · refine oy rfl g1 ?_
   refine ov (vfa0 3 1) ?_
   refine oy rfl g1 ?_
   refine ov vld ?_
   refine oy rfl g1 ?_
   refine cp rfl (fun w hp => time_calls _ w) ?_
   refine ov (V_pick_t rfl g1 rfl) ?_
   refine omv ?_
   refine WL.split rfl (fun g2 => ?_) (fun g2 => ?_)
   · refine oy rfl g2 ?_
     refine ov (vfa0 1 1) ?_
     refine oy rfl g2 ?_
     refine ov vld ?_
     refine oy rfl g2 ?_
     refine cp rfl (fun w hp => account_calls _ w) ?_
     refine ov (V_pick_t rfl g2 rfl) ?_
     refine omv ?_
     refine WL.split rfl (fun g3 => ?_) (fun g3 => ?_)
     · refine oy rfl g3 ?_
       refine ov (vfa0 2 1) ?_
       refine oy rfl g3 ?_
       refine ov vld ?_
       refine oy rfl g3 ?_
       refine cp rfl (fun w hp => account_calls _ w) ?_
       refine ov (V_pick_t rfl g3 rfl) ?_
       refine oas ?_
       refine nq ?_
       refine W.ret ?_
       refine WQ.ret1 Tryz.results107 (.tmp rfl) ?_
       intro w' hp; exact ⟨by simp [rightB, *], hp.forget⟩
     · refine on rfl g3 ?_
       refine on rfl g3 ?_
       refine on rfl g3 ?_
       refine ov (V_pick_f rfl g3 rfl) ?_
       refine oas ?_
       refine nq ?_
       refine W.ret ?_
       refine WQ.ret1 Tryz.results107 (.tmp rfl) ?_
       intro w' hp; exact ⟨by simp [rightB, *], hp.forget⟩
   · refine on rfl g2 ?_
     refine on rfl g2 ?_
     refine on rfl g2 ?_
     refine ov (V_pick_f rfl g2 rfl) ?_
     refine omv ?_
     refine on rfl rfl ?_
     refine on rfl rfl ?_
     refine on rfl rfl ?_
     refine ov (V_pick_f rfl rfl rfl) ?_
     refine oas ?_
     refine nq ?_
     refine W.ret ?_
     refine WQ.ret1 Tryz.results107 (.tmp rfl) ?_
     intro w' hp; exact ⟨by simp [rightB, *], hp.forget⟩
 · refine on rfl g1 ?_
   refine on rfl g1 ?_
   refine on rfl g1 ?_
   refine ov (V_pick_f rfl g1 rfl) ?_
   refine omv ?_
   refine on rfl rfl ?_
   refine on rfl rfl ?_
   refine on rfl rfl ?_
   refine ov (V_pick_f rfl rfl rfl) ?_
   refine omv ?_
   refine on rfl rfl ?_
   refine on rfl rfl ?_
   refine on rfl rfl ?_
   refine ov (V_pick_f rfl rfl rfl) ?_
   refine oas ?_
   refine nq ?_
   refine W.ret ?_
   refine WQ.ret1 Tryz.results107 (.tmp rfl) ?_
   intro w' hp; exact ⟨by simp [rightB, *], hp.forget⟩

theorem draw_calls (sl : List Int) (hs : sl.length = 32) (hsb : bytes sl) (A : Option Addr) (n cap : Nat) (l : List Int) (w : World) (hl : SrW w 1 A n (iv .u8 l)) (hlb : bytes l) (hlc : n ≤ cap) (hn : n ≤ 4000000) :
    Calls Tryz.prog 57 [AG [(32, iv .u8 sl)], .slice A n cap].toArray w fun e w' => e = .returned (AG [(32, iv .u8 (macF sl l))]) ∧ HP w w' [] [] := by
 refine calls_of_W Tryz.func57 rfl Tryz.ntmps57 rfl rfl (HP.refl w []) ?_
 refine sr ?_
 refine obxa (fun b2 => ?_)
 refine oal [(32, List.replicate 32 (.int .u8 0))] (fun b4 => ?_)
 refine nx ?_
 refine ov (vslF 1 32) ?_
 refine omv ?_
 refine cp rfl (fun w hp => mac_calls _ _ _ _ _ _ _ _ w sw sc sc sc sw sc sc sc) ?_
 refine omv ?_
 refine ov vex ?_
 refine ov vex ?_
 refine oal [(32, List.replicate 32 (.int .u8 0))] (fun b5 => ?_)
 refine osta 32 ?_
 refine oas ?_
 refine nx ?_
 refine ov (vlda 32) ?_
 refine osta 32 ?_
 refine nq ?_
 refine W.ret ?_
 refine WQ.ret1 Tryz.results57 (.cellA 32 (by kernel_rfl) rfl at_ (by rfl)) ?_
 intro w' hp; exact ⟨by first | rfl | (simp; done) | (simp [*]; done) | simp_all, hp.forget⟩

theorem rat {w : World} {R : Rel} {ticks : Int} {root : List Int} (h : RelAt w R ticks root := by first | assumption | exact ⟨hat, hat, hat⟩) : RelAt w R ticks root := h
theorem some_of {m : List Ent} {x : Int} (h : ¬ mget m x = none) : ∃ v, mget m x = some v := Option.ne_none_iff_exists'.1 h

theorem key16_calls (x : Int) (hx : 0 ≤ x ∧ x ≤ 9223372036854775807) (R : Rel) (ticks : Int) (root : List Int) (m : List Ent) (clock : Nat) (w : World) (hR : RelAt w R ticks root) (hm : (Blk.obj (mapO .i64 m clock)).Is w.heap[R.m]?) (hg : Good root m) (hl : root.length = 32) (hrb : bytes root) :
    Calls Tryz.prog 56 [.int .i64 x, .pointer (some ⟨R.v, 0, none⟩), .pointer (some ⟨R.k, 0, none⟩)].toArray w fun e w' => ∃ r : List Ent × Nat, Good root r.1 ∧ e = .returned (AG [(32, iv .u8 (drawF root x))]) ∧ HP w w' [R.m] [(R.m, .obj (mapO .i64 r.1 r.2))] := by
 obtain ⟨hr, hv, hk⟩ := hR
 have hne1 : R.r ≠ R.m := hr.neObj hm
 have hne2 : R.v ≠ R.m := hv.neObj hm
 have hne3 : R.k ≠ R.m := hk.neObj hm
 refine calls_of_W Tryz.func56 rfl Tryz.ntmps56 rfl rfl (HP.start1 hm) ?_
 refine sr ?_
 refine oal [(32, List.replicate 32 (.int .u8 0))] (fun b4 => ?_)
 refine nq ?_
 refine W.seq ?_
 by_cases hq : mget m x = none
 · refine W.region ?_
   refine ov vld ?_
   refine ov vnil ?_
   refine ov (vfa0 1 1) ?_
   refine ov vld ?_
   refine omv ?_
   refine ov (vlkN 23 (AG [(32, iv .u8 (List.replicate 32 0))]) hq) ?_
   refine omv ?_
   refine ov vex ?_
   refine ov vex ?_
   refine oal [(32, List.replicate 32 (.int .u8 0))] (fun b5 => ?_)
   refine osta 32 ?_
   refine oas ?_
   refine nq ?_
   refine W.seq ?_
   refine sr ?_
   refine omv ?_
   refine ov vnot ?_
   refine nq ?_
   refine W.cond_true rfl rfl ?_
   refine W.seq ?_
   refine dr (.q 0 (.q 1 (.q 2 (.l 3 (.l 4 (.l 5 (.done))))))) [] ?_
   refine dq rfl (vlda 32) ?_
   refine dq rfl (V_move rfl) ?_
   first | refine dq rfl (vcvN .u64) ?_ | refine dq rfl (vcv .u64) ?_
   refine WD.l ?_
   refine dcg rfl rfl (fun w hp => high_calls _ 4 w sc) (fun b21 h21 => ?_)
   refine WD.l ?_
   refine dcp rfl rfl (fun w hp => draw_calls _ sc sc _ _ _ _ w sw sc sc sc) ?_
   refine WD.l ?_
   refine dsta rfl 32 ?_
   refine WD.done ?_
   refine WQ.then ?_
   refine dr (.q 0 (.q 1 (.q 2 (.q 3 (.q 4 (.q 5 (.l 6 (.done)))))))) [(b5, _)] ?_
   refine dq rfl vld ?_
   refine dq rfl vnil ?_
   refine dq rfl (vfa0 1 1) ?_
   refine dq rfl vld ?_
   refine dq rfl (V_move rfl) ?_
   refine dq rfl (vlda 32) ?_
   refine WD.l ?_
   refine dmu rfl ?_
   refine WD.done ?_
   refine WQ.then ?_
   refine sr ?_
   refine ov (vlda 32) ?_
   refine osta 32 ?_
   refine nq ?_
   refine W.ret ?_
   refine WQ.ret1 Tryz.results56 (.cellA 32 (by kernel_rfl) rfl at_ (by rfl)) ?_
   intro w' hp; exact ⟨(_, _), hg.put, rfl, hp.cov cov⟩
 · obtain ⟨v, hv2⟩ := some_of hq
   obtain rfl := hg _ _ hv2
   refine W.region ?_
   refine ov vld ?_
   refine ov vnil ?_
   refine ov (vfa0 1 1) ?_
   refine ov vld ?_
   refine omv ?_
   refine ov (vlkS hv2) ?_
   refine omv ?_
   refine ov vex ?_
   refine ov vex ?_
   refine oal [(32, List.replicate 32 (.int .u8 0))] (fun b5 => ?_)
   refine osta 32 ?_
   refine oas ?_
   refine nq ?_
   refine W.seq ?_
   refine sr ?_
   refine omv ?_
   refine ov vnot ?_
   refine nq ?_
   refine W.cond_false rfl rfl ?_
   refine W.skip ?_
   refine WQ.then ?_
   refine sr ?_
   refine ov (vlda 32) ?_
   refine osta 32 ?_
   refine nq ?_
   refine W.ret ?_
   refine WQ.ret1 Tryz.results56 (.cellA 32 (by kernel_rfl) rfl at_ (by rfl)) ?_
   intro w' hp; exact ⟨(m, clock), hg, rfl, hp.cov cov⟩

theorem tag16_calls (s : StampS) (hc : s.commit.length = 32) (hcb : bytes s.commit) (ht : s.tag.length = 32) (hx : 0 ≤ s.epoch ∧ s.epoch ≤ 9223372036854775807) (hy : 0 ≤ s.time ∧ s.time ≤ 9223372036854775807) (R : Rel) (ticks : Int) (root : List Int) (m : List Ent) (clock : Nat) (w : World) (hR : RelAt w R ticks root) (hm : (Blk.obj (mapO .i64 m clock)).Is w.heap[R.m]?) (hg : Good root m) (hl : root.length = 32) (hrb : bytes root) :
    Calls Tryz.prog 109 [.pointer (some ⟨R.r, 0, none⟩), AG (stV s)].toArray w fun e w' => ∃ r : List Ent × Nat, Good root r.1 ∧ e = .returned (AG [(32, iv .u8 (tagF root s))]) ∧ HP w w' [R.m] [(R.m, .obj (mapO .i64 r.1 r.2))] := by
 obtain ⟨hr, hv, hk⟩ := hR
 have hne1 : R.r ≠ R.m := hr.neObj hm
 have hne2 : R.v ≠ R.m := hv.neObj hm
 have hne3 : R.k ≠ R.m := hk.neObj hm
 unfold stV
 refine calls_of_W Tryz.func109 rfl Tryz.ntmps109 rfl rfl (HP.start1 hm) ?_
 refine sr ?_
 refine obxa (fun b3 => ?_)
 refine oal [(32, List.replicate 32 (.int .u8 0))] (fun b4 => ?_)
 refine nq ?_
 refine W.seq ?_
 apply W.j7
 · intro hJ
   refine dr (.q 0 (.q 1 (.q 2 (.q 3 (.q 4 (.q 5 (.q 7 (.q 8 (.q 9 (.l2 6 (.l 10 (.l 11 (.q 12 (.done)))) 10 (.l 6 (.l 11 (.q 12 (.done)))))))))))))) [(b3, _)] ?_
   refine dq rfl (vfa0 1 1) ?_
   refine dq rfl vld ?_
   first | refine dq rfl (vcvN .u8) ?_ | refine dq rfl (vcv .u8) ?_
   refine dq rfl (vfa0 2 1) ?_
   refine dq rfl vld ?_
   first | refine dq rfl (vcvN .u8) ?_ | refine dq rfl (vcv .u8) ?_
   refine dq rfl (vfa0 3 1) ?_
   refine dq rfl vld ?_
   first | refine dq rfl (vcvN .u64) ?_ | refine dq rfl (vcv .u64) ?_
   refine WD.l2 ?_ ?_
   · refine dbsI (k := .u8) rfl 5 1 [_, _] (fun b15 => ?_)
     refine WD.l ?_
     refine dcg rfl rfl (fun w hp => high_calls _ 4 w sc) (fun b19 h19 => ?_)
     refine WD.l ?_
     refine dap rfl 5 1 (fun b20 c20 r20 h20 => ?_)
     refine dq rfl (V_assign rfl) ?_
     refine WD.done ?_
     exact WQ.pick (S' := [(0, _), (1, _), (3, _), (4, _), (5, _)]) [0, 1, 3, 4, 5] rfl (hJ b15 b19 h19 b20 c20 r20 h20)
   · refine dcg rfl rfl (fun w hp => high_calls _ 4 w sc) (fun b19 h19 => ?_)
     refine WD.l ?_
     refine dbsI (k := .u8) rfl 5 1 [_, _] (fun b15 => ?_)
     refine WD.l ?_
     refine dap rfl 5 1 (fun b20 c20 r20 h20 => ?_)
     refine dq rfl (V_assign rfl) ?_
     refine WD.done ?_
     exact WQ.pick (S' := [(0, _), (1, _), (3, _), (4, _), (5, _)]) [0, 1, 3, 4, 5] rfl (hJ b15 b19 h19 b20 c20 r20 h20)
 intro b15 b19 h19 b20 c20 r20 h20
 refine WQ.then ?_
 refine W.seq ?_
 apply W.j3
 · intro hJ
   refine dr (.q 0 (.q 1 (.q 2 (.q 3 (.q 4 (.q 5 (.l2 6 (.l 7 (.l 8 (.done))) 7 (.l 6 (.l 8 (.done)))))))))) [(b3, _)] ?_
   refine dq rfl (V_move rfl) ?_
   refine dq rfl vnil ?_
   refine dq rfl (vfa0 2 1) ?_
   refine dq rfl vld ?_
   refine dq rfl (vfa0 0 1) ?_
   refine dq rfl vld ?_
   refine WD.l2 ?_ ?_
   · refine dcgV rfl rfl rfl (fun w hp => key16_calls _ sc _ _ _ _ _ w rat (hh hp) sc sc sc) (fun b27 h27 => ?_)
     refine WD.l ?_
     refine dal rfl [(32, List.replicate 32 (.int .u8 0))] (fun b6 => ?_)
     refine WD.l ?_
     refine dsta rfl 32 ?_
     refine WD.done ?_
     exact WQ.pick (S' := [(1, _), (3, _), (4, _), (5, _), (6, _)]) [1, 3, 4, 5, 6] rfl (hJ b6 b27 h27)
   · refine dal rfl [(32, List.replicate 32 (.int .u8 0))] (fun b6 => ?_)
     refine WD.l ?_
     refine dcgV rfl rfl rfl (fun w hp => key16_calls _ sc _ _ _ _ _ w rat (hh hp) sc sc sc) (fun b27 h27 => ?_)
     refine WD.l ?_
     refine dsta rfl 32 ?_
     refine WD.done ?_
     exact WQ.pick (S' := [(1, _), (3, _), (4, _), (5, _), (6, _)]) [1, 3, 4, 5, 6] rfl (WQ.cov _ (hJ b6 b27 h27))
 intro b6 b27 h27
 refine WQ.then ?_
 refine W.seq ?_
 apply W.j5
 · intro hJ
   refine dr (.q 0 (.q 1 (.q 2 (.q 3 (.l2 4 (.l2 5 (.q 6 (.q 7 (.q 8 (.l 9 (.l 10 (.q 11 (.done))))))) 9 (.l 5 (.q 6 (.q 7 (.q 8 (.l 10 (.q 11 (.done)))))))) 9 (.l 4 (.l 5 (.q 6 (.q 7 (.q 8 (.l 10 (.q 11 (.done))))))))))))) [] ?_
   refine dq rfl (vslF 1 32) ?_
   refine dq rfl (V_move rfl) ?_
   refine dq rfl (vfa0 4 32) ?_
   refine dq rfl (vslF 1 32) ?_
   refine WD.l2 ?_ ?_
   · refine dap rfl 5 1 (fun b33 c33 r33 h33 => ?_)
     refine WD.l2 ?_ ?_
     · refine dcp rfl rfl (fun w hp => mac_calls _ _ _ _ _ _ _ _ w sw sc sc sc sw sc sc sc) ?_
       refine dq rfl (V_move rfl) ?_
       refine dq rfl vex ?_
       refine dq rfl vex ?_
       refine WD.l ?_
       refine dal rfl [(32, List.replicate 32 (.int .u8 0))] (fun b7 => ?_)
       refine WD.l ?_
       refine dsta rfl 32 ?_
       refine dq rfl (V_assign rfl) ?_
       refine WD.done ?_
       exact WQ.pick (S' := [(1, _), (3, _), (4, _), (6, _), (7, _)]) [1, 3, 4, 6, 7] rfl (hJ b7 b33 c33 r33 h33)
     · refine dal rfl [(32, List.replicate 32 (.int .u8 0))] (fun b7 => ?_)
       refine WD.l ?_
       refine dcp rfl rfl (fun w hp => mac_calls _ _ _ _ _ _ _ _ w sw sc sc sc sw sc sc sc) ?_
       refine dq rfl (V_move rfl) ?_
       refine dq rfl vex ?_
       refine dq rfl vex ?_
       refine WD.l ?_
       refine dsta rfl 32 ?_
       refine dq rfl (V_assign rfl) ?_
       refine WD.done ?_
       exact WQ.pick (S' := [(1, _), (3, _), (4, _), (6, _), (7, _)]) [1, 3, 4, 6, 7] rfl (hJ b7 b33 c33 r33 h33)
   · refine dal rfl [(32, List.replicate 32 (.int .u8 0))] (fun b7 => ?_)
     refine WD.l ?_
     refine dap rfl 5 1 (fun b33 c33 r33 h33 => ?_)
     refine WD.l ?_
     refine dcp rfl rfl (fun w hp => mac_calls _ _ _ _ _ _ _ _ w sw sc sc sc sw sc sc sc) ?_
     refine dq rfl (V_move rfl) ?_
     refine dq rfl vex ?_
     refine dq rfl vex ?_
     refine WD.l ?_
     refine dsta rfl 32 ?_
     refine dq rfl (V_assign rfl) ?_
     refine WD.done ?_
     exact WQ.pick (S' := [(1, _), (3, _), (4, _), (6, _), (7, _)]) [1, 3, 4, 6, 7] rfl (WQ.cov _ (hJ b7 b33 c33 r33 h33))
 intro b7 b33 c33 r33 h33
 refine WQ.then ?_
 refine sr ?_
 refine ov (vlda 32) ?_
 refine osta 32 ?_
 refine nq ?_
 refine W.ret ?_
 refine WQ.ret1 Tryz.results109 (.cellA 32 (by kernel_rfl) rfl at_ (by rfl)) ?_
 intro w' hp; exact ⟨_, h27, rfl, hp.cov cov⟩

structure EnvS where
  fr : Int
  to : Int
  commit : List Int
  pub : List Int
  prev : Int
  n : Int
  body : Value
def enV (e : EnvS) : List Seg := [(1, [.int .i64 e.fr]), (1, [.int .i64 e.to]), (32, iv .u8 e.commit), (32, iv .u8 e.pub), (1, [.int .i64 e.prev]), (1, [.int .i64 e.n]), (1, [e.body])]
def StampS.zero : StampS := ⟨0, 0, 0, 0, List.replicate 32 0, List.replicate 32 0⟩
def mayB (e : EnvS) (now : Int) : Bool := timeB now && acB e.fr && acB e.to
def stamp0 (ticks : Int) (e : EnvS) (now : Int) : StampS := ⟨now / ticks, e.fr, e.to, now, e.commit, List.replicate 32 0⟩
def stampF (root : List Int) (ticks : Int) (e : EnvS) (now : Int) : StampS :=
  if mayB e now then ⟨now / ticks, e.fr, e.to, now, e.commit, tagF root (stamp0 ticks e now)⟩ else StampS.zero
def checkF (root : List Int) (ticks : Int) (s : StampS) (now : Int) : Int :=
  if rightB s && timeB now then (if s.epoch ≠ s.time / ticks ∨ tagF root s ≠ s.tag then 4 else if now < s.time ∨ now > s.time + 50 then 5 else 0) else 1
theorem time_bd {n : Int} (h : timeB n = true) : 0 ≤ n ∧ n ≤ 1000000 := by simpa [timeB] using h
theorem div_bd {n t : Int} (h : 0 ≤ n ∧ n ≤ 1000000) (ht : 1 ≤ t) : 0 ≤ n / t ∧ n / t ≤ 1000000 := ⟨Int.ediv_nonneg h.1 (by omega), Int.le_trans (Int.ediv_le_self _ h.1) h.2⟩
@[simp] theorem tagF_len {root : List Int} {s : StampS} : (tagF root s).length = 32 := macF_len
@[simp] theorem tagF_bytes {root : List Int} {s : StampS} : bytes (tagF root s) := macF_bytes

end Go.Proofs.YtmeckbjinmgbbaaGreat