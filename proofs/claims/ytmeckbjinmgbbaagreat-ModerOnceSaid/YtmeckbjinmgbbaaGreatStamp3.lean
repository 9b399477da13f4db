/- stamp: the document's answer. -/
import Derived.Test.YtmeckbjinmgbbaaGreatStamp2
set_option linter.unusedVariables false
set_option linter.unusedSimpArgs false

namespace Go.Proofs.YtmeckbjinmgbbaaGreat
open Go.X
theorem highF_one {x : Int} (h : 0 ≤ x ∧ x < 8) : highF x 1 = [x] := by
  have : highF x 1 = [lowB x 0] := by simp [highF, lowF]
  rw [this, lowB_eq h.1 (by decide)]
  rw [show x / 256 ^ 0 = x by simp, IntKind.wrap_u8]
  congr 1; omega
theorem u8_id {x : Int} (h : 0 ≤ x ∧ x < 8) : IntKind.u8.wrap x = x := by rw [IntKind.wrap_u8]; omega
theorem rtagL {s : StampS} (h1 : 0 ≤ s.fr ∧ s.fr < 8) (h2 : 0 ≤ s.to ∧ s.to < 8) : highF s.fr 1 ++ highF s.to 1 ++ highF s.time 4 ++ s.commit = tagL s := by
  unfold tagL; rw [highF_one h1, highF_one h2, u8_id h1, u8_id h2]; rfl
/-- A number's bytes, out of which it was. -/
theorem numH_cons {a : Int} {l : List Int} : numH (a :: l) = a * 256 ^ l.length + numH l := by
  have key : ∀ (l : List Int) (n : Int), l.foldl (fun n c => n * 256 + c) n = n * 256 ^ l.length + numH l := by
    intro l
    induction l with
    | nil => intro n; simp [numH]
    | cons b l ih =>
      intro n
      have h2 := ih b
      unfold numH at h2 ⊢
      simp only [List.foldl_cons, List.length_cons, Int.zero_mul, Int.zero_add] at h2 ⊢
      rw [ih, h2, Int.pow_succ]
      unfold numH
      rw [Int.add_mul, Int.mul_assoc, Int.mul_comm (256 ^ l.length) 256, Int.add_assoc]
  unfold numH
  simp only [List.foldl_cons, Int.zero_mul, Int.zero_add]
  exact key l a
theorem numH_bound : ∀ {l : List Int}, bytes l → 0 ≤ numH l ∧ numH l < 256 ^ l.length
  | [], _ => by simp [numH]
  | a :: l, h => by
    obtain ⟨ha, hl⟩ := bytes_cons.1 h
    have ih := numH_bound hl
    rw [numH_cons, List.length_cons, Int.pow_succ]
    have h0 : (0 : Int) < 256 ^ l.length := Int.pow_pos (by decide)
    have h1 : 0 ≤ a * 256 ^ l.length := Int.mul_nonneg ha.1 (Int.le_of_lt h0)
    have h2 : a * 256 ^ l.length ≤ 255 * 256 ^ l.length := Int.mul_le_mul_of_nonneg_right ha.2 (Int.le_of_lt h0)
    omega
theorem highF_numH : ∀ {l : List Int}, bytes l → l.length ≤ 8 → highF (numH l) l.length = l
  | [], _, _ => rfl
  | a :: l, h, h8 => by
    obtain ⟨ha, hl⟩ := bytes_cons.1 h
    simp only [List.length_cons] at h8 ⊢
    have ih := highF_numH hl (by omega)
    have hb := numH_bound hl
    have hb2 := numH_bound h
    have h0 : (0 : Int) < 256 ^ l.length := Int.pow_pos (by decide)
    rw [highF_succ, lowB_eq hb2.1 (by omega), numH_cons]
    have e1 : (a * 256 ^ l.length + numH l) / 256 ^ l.length = a := by
      rw [Int.add_comm, Int.add_mul_ediv_right _ _ (by omega), Int.ediv_eq_zero_of_lt hb.1 hb.2, Int.zero_add]
    have e2 : highF (a * 256 ^ l.length + numH l) l.length = highF (numH l) l.length := by
      unfold highF lowF
      congr 1
      apply List.map_congr_left
      intro i hi
      have hi := List.mem_range.1 hi
      rw [lowB_eq (by have := Int.mul_nonneg ha.1 (Int.le_of_lt h0); omega) (by omega), lowB_eq hb.1 (by omega)]
      have hp : (0 : Int) < 256 ^ i := Int.pow_pos (by decide)
      have hs : (256 : Int) ^ l.length = 256 ^ (l.length - i) * 256 ^ i := by rw [← Int.pow_add]; congr 1; omega
      rw [hs, ← Int.mul_assoc, Int.add_comm, Int.add_mul_ediv_right _ _ (by omega)]
      have hs2 : (256 : Int) ^ (l.length - i) = 256 ^ (l.length - i - 1) * 256 := by rw [← Int.pow_succ]; congr 1; omega
      rw [hs2, ← Int.mul_assoc, IntKind.wrap_u8, IntKind.wrap_u8, Int.add_mul_emod_self_right]
    rw [e1, e2, ih, IntKind.wrap_u8]
    congr 1; omega
theorem acB7 {n : Int} : acB n = (decide (0 ≤ n) && decide (n ≤ 7)) := by unfold acB; congr 1; exact decide_eq_decide.2 (by omega)

theorem rtime_calls (n : Int) (w : World) : Calls Tryz.prog 88 [.int .i64 n].toArray w fun e w' => e = .returned (.bool (timeB n)) ∧ HP w w' [] [] := by
 refine calls_of_W Tryz.func88 rfl Tryz.ntmps88 rfl rfl (HP.refl w []) ?_
 refine sr ?_
 refine oas ?_
 refine nx ?_
 refine omv ?_
 refine ov (v2 V_geq) ?_
 refine omv ?_
 refine WL.splitD rfl (fun g1 => ?_) (fun g1 => ?_)
 · refine oy rfl (decide_eq_true g1) ?_
   refine omv ?_
   refine oy rfl (decide_eq_true g1) ?_
   refine ov (v2 V_leq) ?_
   refine ov (V_pick_td rfl g1 rfl) ?_
   refine oas ?_
   refine nq ?_
   refine W.ret ?_
   refine WQ.ret1 Tryz.results88 (.tmp rfl) ?_
   intro w' hp; exact ⟨by simp [timeB, *], hp.forget⟩
 · refine on rfl (decide_eq_false g1) ?_
   refine on rfl (decide_eq_false g1) ?_
   refine ov (V_pick_fd rfl g1 rfl) ?_
   refine oas ?_
   refine nq ?_
   refine W.ret ?_
   refine WQ.ret1 Tryz.results88 (.tmp rfl) ?_
   intro w' hp; exact ⟨by simp [timeB, *], hp.forget⟩

theorem raccount_calls (n : Int) (w : World) : Calls Tryz.prog 114 [.int .i64 n].toArray w fun e w' => e = .returned (.bool (acB n)) ∧ HP w w' [] [] := by
 refine calls_of_W Tryz.func114 rfl Tryz.ntmps114 rfl rfl (HP.refl w []) ?_
 refine sr ?_
 refine oas ?_
 refine nx ?_
 refine omv ?_
 refine ov (v2 V_geq) ?_
 refine omv ?_
 refine WL.splitD rfl (fun g1 => ?_) (fun g1 => ?_)
 · refine oy rfl (decide_eq_true g1) ?_
   refine omv ?_
   refine oy rfl (decide_eq_true g1) ?_
   refine ov (v2 V_leq) ?_
   refine ov (V_pick_td rfl g1 rfl) ?_
   refine oas ?_
   refine nq ?_
   refine W.ret ?_
   refine WQ.ret1 Tryz.results114 (.tmp rfl) ?_
   intro w' hp; exact ⟨by rw [acB7]; simp [*], hp.forget⟩
 · refine on rfl (decide_eq_false g1) ?_
   refine on rfl (decide_eq_false g1) ?_
   refine ov (V_pick_fd rfl g1 rfl) ?_
   refine oas ?_
   refine nq ?_
   refine W.ret ?_
   refine WQ.ret1 Tryz.results114 (.tmp rfl) ?_
   intro w' hp; exact ⟨by rw [acB7]; simp [*], hp.forget⟩

theorem rright_calls (s : StampS) (hc : s.commit.length = 32) (ht : s.tag.length = 32) (w : World) : Calls Tryz.prog 112 [AG (stV s)].toArray w fun e w' => e = .returned (.bool (rightB s)) ∧ HP w w' [] [] := by
 unfold stV
 refine calls_of_W Tryz.func112 rfl Tryz.ntmps112 rfl rfl (HP.refl w []) ?_
 refine sr ?_
 refine obxa (fun b1 => ?_)
 refine oas ?_
 refine nx ?_
 refine ov (vfa0 0 1) ?_
 refine ov vld ?_
 refine cp rfl (fun w hp => rtime_calls _ w) ?_
 refine omv ?_
 refine WL.split rfl (fun g1 => ?_) (fun g1 => ?_)
 · refine oy rfl g1 ?_
   refine ov (vfa0 3 1) ?_
   refine oy rfl g1 ?_
   refine ov vld ?_
   refine oy rfl g1 ?_
   refine cp rfl (fun w hp => rtime_calls _ w) ?_
   refine ov (V_pick_t rfl g1 rfl) ?_
   refine omv ?_
   refine WL.split rfl (fun g2 => ?_) (fun g2 => ?_)
   · refine oy rfl g2 ?_
     refine ov (vfa0 1 1) ?_
     refine oy rfl g2 ?_
     refine ov vld ?_
     refine oy rfl g2 ?_
     refine cp rfl (fun w hp => raccount_calls _ w) ?_
     refine ov (V_pick_t rfl g2 rfl) ?_
     refine omv ?_
     refine WL.split rfl (fun g3 => ?_) (fun g3 => ?_)
     · refine oy rfl g3 ?_
       refine ov (vfa0 2 1) ?_
       refine oy rfl g3 ?_
       refine ov vld ?_
       refine oy rfl g3 ?_
       refine cp rfl (fun w hp => raccount_calls _ w) ?_
       refine ov (V_pick_t rfl g3 rfl) ?_
       refine oas ?_
       refine nq ?_
       refine W.ret ?_
       refine WQ.ret1 Tryz.results112 (.tmp rfl) ?_
       intro w' hp; exact ⟨by simp [rightB, *], hp.forget⟩
     · refine on rfl g3 ?_
       refine on rfl g3 ?_
       refine on rfl g3 ?_
       refine ov (V_pick_f rfl g3 rfl) ?_
       refine oas ?_
       refine nq ?_
       refine W.ret ?_
       refine WQ.ret1 Tryz.results112 (.tmp rfl) ?_
       intro w' hp; exact ⟨by simp [rightB, *], hp.forget⟩
   · refine on rfl g2 ?_
     refine on rfl g2 ?_
     refine on rfl g2 ?_
     refine ov (V_pick_f rfl g2 rfl) ?_
     refine omv ?_
     refine on rfl rfl ?_
     refine on rfl rfl ?_
     refine on rfl rfl ?_
     refine ov (V_pick_f rfl rfl rfl) ?_
     refine oas ?_
     refine nq ?_
     refine W.ret ?_
     refine WQ.ret1 Tryz.results112 (.tmp rfl) ?_
     intro w' hp; exact ⟨by simp [rightB, *], hp.forget⟩
 · refine on rfl g1 ?_
   refine on rfl g1 ?_
   refine on rfl g1 ?_
   refine ov (V_pick_f rfl g1 rfl) ?_
   refine omv ?_
   refine on rfl rfl ?_
   refine on rfl rfl ?_
   refine on rfl rfl ?_
   refine ov (V_pick_f rfl rfl rfl) ?_
   refine omv ?_
   refine on rfl rfl ?_
   refine on rfl rfl ?_
   refine on rfl rfl ?_
   refine ov (V_pick_f rfl rfl rfl) ?_
   refine oas ?_
   refine nq ?_
   refine W.ret ?_
   refine WQ.ret1 Tryz.results112 (.tmp rfl) ?_
   intro w' hp; exact ⟨by simp [rightB, *], hp.forget⟩

theorem rdraw_calls (sl : List Int) (hs : sl.length = 32) (hsb : bytes sl) (A : Option Addr) (n cap : Nat) (l : List Int) (w : World) (hl : SrW w 1 A n (iv .u8 l)) (hlb : bytes l) (hlc : n ≤ cap) (hn : n ≤ 4000000) :
    Calls Tryz.prog 132 [AG [(32, iv .u8 sl)], .slice A n cap].toArray w fun e w' => e = .returned (AG [(32, iv .u8 (macF sl l))]) ∧ HP w w' [] [] := by
 refine calls_of_W Tryz.func132 rfl Tryz.ntmps132 rfl rfl (HP.refl w []) ?_
 refine sr ?_
 refine obxa (fun b2 => ?_)
 refine oal [(32, List.replicate 32 (.int .u8 0))] (fun b4 => ?_)
 refine nx ?_
 refine ov (vlda 32) ?_
 refine omv ?_
 refine cp rfl (fun w hp => rtag_calls _ _ _ _ _ w sc sc sw sc sc sc) ?_
 refine osta 32 ?_
 refine nq ?_
 refine W.ret ?_
 refine WQ.ret1 Tryz.results132 (.cellA 32 (by kernel_rfl) rfl at_ (by rfl)) ?_
 intro w' hp; exact ⟨by first | rfl | (simp; done) | (simp [*]; done) | simp_all, hp.forget⟩

theorem rtag16_calls (root : List Int) (s : StampS) (hl : root.length = 32) (hrb : bytes root) (hc : s.commit.length = 32) (hcb : bytes s.commit) (ht : s.tag.length = 32) (hx : 0 ≤ s.epoch ∧ s.epoch ≤ 1000000) (hy : 0 ≤ s.time ∧ s.time ≤ 1000000) (hf : 0 ≤ s.fr ∧ s.fr < 8) (hto : 0 ≤ s.to ∧ s.to < 8) (w : World) :
    Calls Tryz.prog 115 [AG [(32, iv .u8 root)], AG (stV s)].toArray w fun e w' => e = .returned (AG [(32, iv .u8 (tagF root s))]) ∧ HP w w' [] [] := by
 unfold stV
 refine calls_of_W Tryz.func115 rfl Tryz.ntmps115 rfl rfl (HP.refl w []) ?_
 refine sr ?_
 refine obxa (fun b2 => ?_)
 refine obxa (fun b3 => ?_)
 refine oal [(32, List.replicate 32 (.int .u8 0))] (fun b4 => ?_)
 refine nq ?_
 refine W.seq ?_
 apply W.j3
 · intro hJ
   refine dr (.q 0 (.q 1 (.q 2 (.q 3 (.l2 4 (.l2 5 (.l 6 (.l 7 (.done))) 6 (.l 5 (.l 7 (.done)))) 6 (.l 4 (.l 5 (.l 7 (.done))))))))) [(b3, _), (b2, _)] ?_
   refine dq rfl (vlda 32) ?_
   refine dq rfl (vfa0 0 1) ?_
   refine dq rfl vld ?_
   first | refine dq rfl (vcvN .u64) ?_ | refine dq rfl (vcv .u64) ?_
   refine WD.l2 ?_ ?_
   · refine dcgG rfl rfl (fun w hp => rhigh_calls _ 4 w sc sc) (fun o11 h11 => ?_)
     refine WD.l2 ?_ ?_
     · refine dcp rfl rfl (fun w hp => rdraw_calls _ sc sc _ _ _ _ w sw sc sc sc) ?_
       refine WD.l ?_
       refine dal rfl [(32, List.replicate 32 (.int .u8 0))] (fun b5 => ?_)
       refine WD.l ?_
       refine dsta rfl 32 ?_
       refine WD.done ?_
       exact WQ.pick (S' := [(0, _), (1, _), (3, _), (4, _), (5, _)]) [0, 1, 3, 4, 5] rfl (hJ b5 o11 h11)
     · refine dal rfl [(32, List.replicate 32 (.int .u8 0))] (fun b5 => ?_)
       refine WD.l ?_
       refine dcp rfl rfl (fun w hp => rdraw_calls _ sc sc _ _ _ _ w sw sc sc sc) ?_
       refine WD.l ?_
       refine dsta rfl 32 ?_
       refine WD.done ?_
       exact WQ.pick (S' := [(0, _), (1, _), (3, _), (4, _), (5, _)]) [0, 1, 3, 4, 5] rfl (hJ b5 o11 h11)
   · refine dal rfl [(32, List.replicate 32 (.int .u8 0))] (fun b5 => ?_)
     refine WD.l ?_
     refine dcgG rfl rfl (fun w hp => rhigh_calls _ 4 w sc sc) (fun o11 h11 => ?_)
     refine WD.l ?_
     refine dcp rfl rfl (fun w hp => rdraw_calls _ sc sc _ _ _ _ w sw sc sc sc) ?_
     refine WD.l ?_
     refine dsta rfl 32 ?_
     refine WD.done ?_
     exact WQ.pick (S' := [(0, _), (1, _), (3, _), (4, _), (5, _)]) [0, 1, 3, 4, 5] rfl (hJ b5 o11 h11)
 intro b5 o11 h11
 refine WQ.then ?_
 refine W.seq ?_
 refine dr (.q 0 (.q 1 (.q 2 (.q 4 (.q 5 (.q 6 (.l 3 (.l 7 (.l 8 (.q 9 (.done))))))))))) [(b3, _)] ?_
 refine dq rfl (vfa0 1 1) ?_
 refine dq rfl vld ?_
 first | refine dq rfl (vcvN .u64) ?_ | refine dq rfl (vcv .u64) ?_
 refine dq rfl (vfa0 2 1) ?_
 refine dq rfl vld ?_
 first | refine dq rfl (vcvN .u64) ?_ | refine dq rfl (vcv .u64) ?_
 refine WD.l ?_
 refine dcgG rfl rfl (fun w hp => rhigh_calls _ 1 w sc sc) (fun o16 h16 => ?_)
 refine WD.l ?_
 refine dcgG rfl rfl (fun w hp => rhigh_calls _ 1 w sc sc) (fun o20 h20 => ?_)
 refine WD.l ?_
 refine dapG rfl 5 1 (fun o21 h21 p21 => ?_)
 refine dq rfl (V_assign rfl) ?_
 refine WD.done ?_
 refine WQ.then ?_
 refine sr ?_
 refine omv ?_
 refine ov (vfa0 3 1) ?_
 refine ov vld ?_
 first | refine ov (vcvN .u64) ?_ | refine ov (vcv .u64) ?_
 refine cgG rfl (fun w hp => rhigh_calls _ 4 w sc sc) (fun o26 h26 => ?_)
 refine oapG 5 1 (fun o27 h27 p27 => ?_)
 refine oas ?_
 refine nq ?_
 refine W.seq ?_
 refine dr (.q 0 (.q 1 (.q 2 (.q 3 (.l 4 (.l 5 (.l 6 (.done)))))))) [(b5, _)] ?_
 refine dq rfl (vlda 32) ?_
 refine dq rfl (V_move rfl) ?_
 refine dq rfl (vfa0 4 32) ?_
 refine dq rfl (vslF 1 32) ?_
 refine WD.l ?_
 refine dapG rfl 5 1 (fun o32 h32 p32 => ?_)
 refine WD.l ?_
 refine dcp rfl rfl (fun w hp => rtag_calls _ _ _ _ _ w sc sc sw sc sc sc) ?_
 refine WD.l ?_
 refine dsta rfl 32 ?_
 refine WD.done ?_
 refine WQ.then ?_
 refine W.ret ?_
 refine WQ.ret1 Tryz.results115 (.cellA 32 (by kernel_rfl) rfl at_ (by rfl)) ?_
 intro w' hp; rw [show tagF root s = macF (macF root (highF s.epoch 4)) (highF s.fr 1 ++ highF s.to 1 ++ highF s.time 4 ++ s.commit) from by rw [rtagL hf hto]; rfl]; exact ⟨rfl, hp.forget⟩

end Go.Proofs.YtmeckbjinmgbbaaGreat