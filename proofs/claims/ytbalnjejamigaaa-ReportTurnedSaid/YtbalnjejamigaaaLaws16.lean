/- The statements of layer 16: their walks. -/
import Derived.Test.YtbalnjejamigaaaStamp5
import Derived.Test.YtbalnjejamigaaaXB
set_option linter.unusedVariables false
set_option linter.unusedSimpArgs false

namespace Go.Proofs.Ytbalnjejamigaaa
open Go.X
section
variable {root : List Int} {ticks now t : Int} {e : EnvS}
theorem stampF_t (h : mayB e now = true) : stampF root ticks e now = ⟨now / ticks, e.fr, e.to, now, e.commit, tagF root (stamp0 ticks e now)⟩ := by unfold stampF; rw [if_pos h]
theorem stampF_f (h : mayB e now = false) : stampF root ticks e now = StampS.zero := by unfold stampF; rw [h]; rfl
theorem may_bd (h : mayB e now = true) : (0 ≤ now ∧ now ≤ 1000000) ∧ (0 ≤ e.fr ∧ e.fr < 8) ∧ (0 ≤ e.to ∧ e.to < 8) := by
  simp only [mayB, timeB, acB, Bool.and_eq_true, decide_eq_true_eq] at h
  exact ⟨h.1.1, h.1.2, h.2⟩
theorem stamp_right (h : mayB e now = true) (ht : 1 ≤ ticks) : rightB (stampF root ticks e now) = true := by
  obtain ⟨h1, h2, h3⟩ := may_bd h
  have := div_bd h1 ht
  rw [stampF_t h]
  simp only [rightB, timeB, acB, Bool.and_eq_true, decide_eq_true_eq]
  exact ⟨⟨⟨this, h1⟩, h2⟩, h3⟩
theorem stampF_clen (h : e.commit.length = 32) : (stampF root ticks e now).commit.length = 32 := by
  unfold stampF; split
  · exact h
  · rfl
theorem stampF_cb (h : bytes e.commit) : bytes (stampF root ticks e now).commit := by
  unfold stampF; split
  · exact h
  · intro c hc; rw [List.eq_of_mem_replicate (show c ∈ List.replicate 32 0 from hc)]; omega
@[simp] theorem stampF_tlen : (stampF root ticks e now).tag.length = 32 := by
  unfold stampF; split
  · exact tagF_len
  · rfl
@[simp] theorem stampF_tb : bytes (stampF root ticks e now).tag := by
  unfold stampF; split
  · exact tagF_bytes
  · intro c hc; rw [List.eq_of_mem_replicate (show c ∈ List.replicate 32 0 from hc)]; omega
theorem tag_stamp (h : mayB e now = true) : tagF root (stampF root ticks e now) = (stampF root ticks e now).tag := by rw [stampF_t h]; rfl
/-- What was stamped checks, through the window. -/
theorem check_stamp (h : mayB e now = true) (ht : 1 ≤ ticks) (h2 : timeB t = true) : checkF root ticks (stampF root ticks e now) t = if t < now ∨ t > now + 50 then 5 else 0 := by
  rw [chk_ok (stamp_right h ht) h2, if_neg]
  · rw [stampF_t h]
  · rintro (e | e)
    · exact e (by rw [stampF_t h])
    · exact e (tag_stamp h)
end

theorem awake16_calls (w : World) : Calls Try.prog 34 ([] : List Value).toArray w fun e w' => e = .returned (.bool true) ∧ HP w w' [] [] := by
 have hm : mayB ⟨2, 3, ([4] ++ List.replicate (32 - 1) 0), List.replicate 32 0, 0, 0, .slice none 0 0⟩ 7 = true := by rfl
 have hm2 := stamp_right (root := ([1] ++ List.replicate (32 - 1) 0)) (ticks := 5) hm (by omega)
 refine calls_of_W Try.func34 rfl Try.ntmps34 rfl rfl (HP.refl w []) ?_
 refine sr ?_
 refine oas ?_
 refine nx ?_
 refine ov (vbI 32 .u8 1 [1]) ?_
 refine cg rfl (fun w hp => new16_calls ([1] ++ List.replicate (32 - 1) 0) 5 (by simp) (by omega) w) (fun b7 h7 => ?_)
 refine omv ?_
 refine ov vex ?_
 refine ov vex ?_
 refine oas ?_
 refine oas ?_
 refine nq ?_
 refine W.seq ?_
 refine sr ?_
 refine omv ?_
 refine ov (V_eqlP (by kernel_rfl) rfl rfl) ?_
 refine omv ?_
 refine oy rfl rfl ?_
 refine omv ?_
 refine oy rfl rfl ?_
 refine ov (v2 V_neq) ?_
 refine ov (V_pick_f rfl rfl rfl) ?_
 refine nq ?_
 refine W.cond_false rfl (by decide) ?_
 refine W.skip ?_
 refine WQ.then ?_
 refine sr ?_
 refine omv ?_
 refine ov (vbI 32 .u8 1 [4]) ?_
 simp only [iv_rep]
 refine ov (V_build (by kernel_rfl) (zi (zs := [(1, [.int .i64 0]), (1, [.int .i64 0]), (32, List.replicate 32 (.int .u8 0)), (32, List.replicate 32 (.int .u8 0)), (1, [.int .i64 0]), (1, [.int .i64 0]), (1, [.slice none 0 0])])) (.one (k := 0) rfl rfl (by kernel_rfl) rfl (.one (k := 1) rfl rfl (by kernel_rfl) rfl (.agg (k := 2) (n := 32) rfl fit fln (by kernel_rfl) rfl (.nil _))))) ?_
 simp only [iv_rep]
 refine cg rfl (fun w hp => stamp_calls ⟨2, 3, ([4] ++ List.replicate (32 - 1) 0), List.replicate 32 0, 0, 0, .slice none 0 0⟩ 7 (by simp) sc (by simp) b7 5 ([1] ++ List.replicate (32 - 1) 0) [] 0 w rat (hh hp) Good.nil (by simp) sc (by omega)) (fun b20 h20 => ?_)
 refine omv ?_
 refine ov vex ?_
 refine ov vex ?_
 unfold stV
 refine oal [(1, [.int .i64 0]), (1, [.int .i64 0]), (1, [.int .i64 0]), (1, [.int .i64 0]), (32, List.replicate 32 (.int .u8 0)), (32, List.replicate 32 (.int .u8 0))] (fun b3 => ?_)
 refine osta 68 ?_
 refine oas ?_
 refine nx ?_
 refine omv ?_
 refine ov (v2 V_eql) ?_
 refine omv ?_
 refine oy rfl (by rw [if_pos hm]; rfl) ?_
 refine ov (vfa0 0 1) ?_
 refine oy rfl (by rw [if_pos hm]; rfl) ?_
 refine ov vld ?_
 refine oy rfl (by rw [if_pos hm]; rfl) ?_
 refine ov (v2 V_eql) ?_
 refine ov (V_pick_t rfl (by rw [if_pos hm]; rfl) rfl) ?_
 refine omv ?_
 refine oy rfl (by rw [stampF_t hm]; rfl) ?_
 refine omv ?_
 refine oy rfl (by rw [stampF_t hm]; rfl) ?_
 refine ov (vlda 68) ?_
 refine oy rfl (by rw [stampF_t hm]; rfl) ?_
 refine cg rfl (fun w hp => chk16_calls (stampF ([1] ++ List.replicate (32 - 1) 0) 5 ⟨2, 3, ([4] ++ List.replicate (32 - 1) 0), List.replicate 32 0, 0, 0, .slice none 0 0⟩ 7) 57 (stampF_clen (by simp)) (stampF_cb sc) stampF_tlen stampF_tb b7 5 ([1] ++ List.replicate (32 - 1) 0) b20.1 b20.2 w rat (hh hp) h20 (by simp) sc (by omega)) (fun b33 h33 => ?_)
 refine oy rfl (by rw [stampF_t hm]; rfl) ?_
 refine ov (v2 V_eql) ?_
 refine ov (V_pick_t rfl (by rw [stampF_t hm]; rfl) rfl) ?_
 refine omv ?_
 refine oy rfl (by rw [check_stamp hm (by omega) rfl]; rfl) ?_
 refine omv ?_
 refine oy rfl (by rw [check_stamp hm (by omega) rfl]; rfl) ?_
 refine ov (vlda 68) ?_
 refine oy rfl (by rw [check_stamp hm (by omega) rfl]; rfl) ?_
 refine cg rfl (fun w hp => chk16_calls (stampF ([1] ++ List.replicate (32 - 1) 0) 5 ⟨2, 3, ([4] ++ List.replicate (32 - 1) 0), List.replicate 32 0, 0, 0, .slice none 0 0⟩ 7) 58 (stampF_clen (by simp)) (stampF_cb sc) stampF_tlen stampF_tb b7 5 ([1] ++ List.replicate (32 - 1) 0) b33.1 b33.2 w rat (hh hp) h33 (by simp) sc (by omega)) (fun b39 h39 => ?_)
 refine oy rfl (by rw [check_stamp hm (by omega) rfl]; rfl) ?_
 refine ov (v2 V_eql) ?_
 refine ov (V_pick_t rfl (by rw [check_stamp hm (by omega) rfl]; rfl) rfl) ?_
 refine oas ?_
 refine nq ?_
 refine W.ret ?_
 refine WQ.ret1 Try.results34 (.tmp rfl) ?_
 intro w' hp; exact ⟨by rw [check_stamp hm (by omega) rfl]; rfl, hp.forget⟩

theorem stampMakes_calls (rl : List Int) (hl : rl.length = 32) (hrb : bytes rl) (xl : List Int) (hx : xl.length = 2) (e : EnvS) (hc : e.commit.length = 32) (hcb : bytes e.commit) (hpl : e.pub.length = 32) (w : World) :
    Calls Try.prog 11 [AG [(32, iv .u8 rl)], AG [(2, iv .i64 xl)], AG (enV e)].toArray w fun e' w' => e' = .returned (.bool true) ∧ HP w w' [] [] := by
 have hsc : ∀ r t n, (stampF r t e n).commit.length = 32 := fun _ _ _ => stampF_clen hc
 have hst : ∀ r t n, mayB e n = true → (stampF r t e n).time = n := fun _ _ _ h => by rw [stampF_t h]
 have hsb : ∀ r t n, bytes (stampF r t e n).commit := fun _ _ _ => stampF_cb hcb
 unfold enV
 refine calls_of_W Try.func11 rfl Try.ntmps11 rfl rfl (HP.refl w []) ?_
 refine sr ?_
 refine obxa (fun b3 => ?_)
 refine obxa (fun b4 => ?_)
 refine obxa (fun b5 => ?_)
 refine oas ?_
 refine nx ?_
 refine cp rfl (fun w hp => awake16_calls w) ?_
 refine oas ?_
 refine nq ?_
 refine W.seq ?_
 by_cases hq : 1 ≤ xl.getD 0 0 ∧ xl.getD 0 0 ≤ 1000000
 · refine W.region ?_
   refine ov (vlda 32) ?_
   refine ov (viA0 (j := 0) 2) ?_
   first | refine ov vldI ?_ | refine ov vld ?_
   refine cg rfl (fun w hp => new16_calls rl (xl.getD 0 0) hl hq w) (fun b19 h19 => ?_)
   refine omv ?_
   refine ov vex ?_
   refine ov vex ?_
   refine oas ?_
   refine oas ?_
   refine nq ?_
   refine W.seq ?_
   refine sr ?_
   refine ov (viA0 (j := 0) 2) ?_
   first | refine ov vldI ?_ | refine ov vld ?_
   refine ov (v2 V_lss) ?_
   refine omv ?_
   refine oy rfl (decide_eq_false (by omega)) ?_
   refine ov (viA0 (j := 0) 2) ?_
   refine oy rfl (decide_eq_false (by omega)) ?_
   first | refine ov vldI ?_ | refine ov vld ?_
   refine oy rfl (decide_eq_false (by omega)) ?_
   refine ov (v2 V_gtr) ?_
   refine ov (V_pick_f rfl (decide_eq_false (by omega)) rfl) ?_
   refine nq ?_
   refine W.cond_false rfl (decide_eq_false (by omega)) ?_
   refine W.skip ?_
   refine WQ.then ?_
   refine W.seq ?_
   refine sr ?_
   refine omv ?_
   refine ov (V_eqlP (by kernel_rfl) rfl rfl) ?_
   refine omv ?_
   refine oy rfl rfl ?_
   refine omv ?_
   refine oy rfl rfl ?_
   refine ov (v2 V_neq) ?_
   refine ov (V_pick_f rfl rfl rfl) ?_
   refine nq ?_
   refine W.cond_false rfl (by decide) ?_
   refine W.skip ?_
   refine WQ.then ?_
   refine sr ?_
   refine omv ?_
   refine ov (vlda 69) ?_
   refine ov (viA0 (j := 1) 2) ?_
   first | refine ov vldI ?_ | refine ov vld ?_
   refine cg rfl (fun w hp => stamp_calls e (xl.getD 1 0) hc hcb hpl b19 (xl.getD 0 0) rl [] 0 w rat (hh hp) Good.nil hl hrb hq.1) (fun b50 h50 => ?_)
   refine omv ?_
   refine ov vex ?_
   refine ov vex ?_
   unfold stV
   refine oal [(1, [.int .i64 0]), (1, [.int .i64 0]), (1, [.int .i64 0]), (1, [.int .i64 0]), (32, List.replicate 32 (.int .u8 0)), (32, List.replicate 32 (.int .u8 0))] (fun b10 => ?_)
   refine osta 68 ?_
   refine oas ?_
   refine nx ?_
   refine ov (vlda 32) ?_
   refine ov (viA0 (j := 0) 2) ?_
   first | refine ov vldI ?_ | refine ov vld ?_
   refine ov (vlda 69) ?_
   refine ov (viA0 (j := 1) 2) ?_
   first | refine ov vldI ?_ | refine ov vld ?_
   refine cp rfl (fun w hp => rstamp_calls rl (xl.getD 0 0) e (xl.getD 1 0) hl hrb hq.1 hc hcb hpl w) ?_
   refine omv ?_
   refine ov vex ?_
   refine ov vex ?_
   unfold stV
   refine oal [(1, [.int .i64 0]), (1, [.int .i64 0]), (1, [.int .i64 0]), (1, [.int .i64 0]), (32, List.replicate 32 (.int .u8 0)), (32, List.replicate 32 (.int .u8 0))] (fun b12 => ?_)
   refine osta 68 ?_
   refine oas ?_
   refine nx ?_
   refine omv ?_
   refine omv ?_
   refine oy rfl rfl ?_
   refine ov (vlda 68) ?_
   refine oy rfl rfl ?_
   refine ov (vlda 68) ?_
   refine oy rfl rfl ?_
   refine ov (veqA [(1, 5), (1, 5), (1, 5), (1, 5), (32, 6), (32, 6)]) ?_
   refine ov (V_pick_t rfl rfl rfl) ?_
   refine omv ?_
   refine oy rfl (by first | (simp; done) | (simp [*]; done) | (split <;> simp_all; done) | simp_all) ?_
   refine omv ?_
   refine oy rfl (by first | (simp; done) | (simp [*]; done) | (split <;> simp_all; done) | simp_all) ?_
   refine omv ?_
   refine oy rfl (by first | (simp; done) | (simp [*]; done) | (split <;> simp_all; done) | simp_all) ?_
   refine ov (v2 V_eql) ?_
   refine ov (V_pick_t rfl (by first | (simp; done) | (simp [*]; done) | (split <;> simp_all; done) | simp_all) rfl) ?_
   refine oas ?_
   refine nq ?_
   refine W.ret ?_
   refine WQ.ret1 Try.results11 (.tmp rfl) ?_
   intro w' hp; exact ⟨by first | rfl | (simp; done) | (simp [*]; done) | simp_all, hp.forget⟩
 · refine W.region ?_
   refine ov (vlda 32) ?_
   refine ov (viA0 (j := 0) 2) ?_
   first | refine ov vldI ?_ | refine ov vld ?_
   refine cp rfl (fun w hp => new16_bad rl (xl.getD 0 0) hl hq w) ?_
   refine omv ?_
   refine ov vex ?_
   refine ov vex ?_
   refine oas ?_
   refine oas ?_
   refine nq ?_
   refine W.seq ?_
   refine sr ?_
   refine ov (viA0 (j := 0) 2) ?_
   first | refine ov vldI ?_ | refine ov vld ?_
   refine ov (v2 V_lss) ?_
   refine omv ?_
   refine WL.splitD rfl (fun g1 => ?_) (fun g1 => ?_)
   · refine on rfl (decide_eq_true g1) ?_
     refine on rfl (decide_eq_true g1) ?_
     refine on rfl (decide_eq_true g1) ?_
     refine ov (V_pick_td rfl g1 rfl) ?_
     refine nq ?_
     refine W.cond_true rfl rfl ?_
     refine sr ?_
     refine omv ?_
     refine omv ?_
     refine oy rfl rfl ?_
     refine omv ?_
     refine oy rfl rfl ?_
     refine ov (V_eqlP (by kernel_rfl) rfl rfl) ?_
     refine ov (V_pick_t rfl rfl rfl) ?_
     refine omv ?_
     refine oy rfl rfl ?_
     refine omv ?_
     refine oy rfl rfl ?_
     refine ov (v2 V_eql) ?_
     refine ov (V_pick_t rfl rfl rfl) ?_
     refine oas ?_
     refine nq ?_
     refine W.ret ?_
     refine WQ.then_ret ?_
     refine WQ.ret1 Try.results11 (.tmp rfl) ?_
     intro w' hp; exact ⟨by first | rfl | (simp; done) | (simp [*]; done) | simp_all, hp.forget⟩
   · refine oy rfl (decide_eq_false g1) ?_
     refine ov (viA0 (j := 0) 2) ?_
     refine oy rfl (decide_eq_false g1) ?_
     first | refine ov vldI ?_ | refine ov vld ?_
     refine oy rfl (decide_eq_false g1) ?_
     refine ov (v2 V_gtr) ?_
     refine ov (V_pick_fd rfl g1 rfl) ?_
     refine nq ?_
     refine W.cond_true rfl (decide_eq_true (by omega)) ?_
     refine sr ?_
     refine omv ?_
     refine omv ?_
     refine oy rfl rfl ?_
     refine omv ?_
     refine oy rfl rfl ?_
     refine ov (V_eqlP (by kernel_rfl) rfl rfl) ?_
     refine ov (V_pick_t rfl rfl rfl) ?_
     refine omv ?_
     refine oy rfl rfl ?_
     refine omv ?_
     refine oy rfl rfl ?_
     refine ov (v2 V_eql) ?_
     refine ov (V_pick_t rfl rfl rfl) ?_
     refine oas ?_
     refine nq ?_
     refine W.ret ?_
     refine WQ.then_ret ?_
     refine WQ.ret1 Try.results11 (.tmp rfl) ?_
     intro w' hp; exact ⟨by first | rfl | (simp; done) | (simp [*]; done) | simp_all, hp.forget⟩

theorem xor_bd {x : Int} (h0 : 0 ≤ x ∧ x ≤ 255) : 0 ≤ xorI .u8 x 1 ∧ xorI .u8 x 1 ≤ 255 := by
  have key : ∀ x : Fin 256, 0 ≤ xorI .u8 (x.val : Int) 1 ∧ xorI .u8 (x.val : Int) 1 ≤ 255 := by decide +kernel
  have := key ⟨x.toNat, by omega⟩
  simp only at this
  rwa [Int.toNat_of_nonneg h0.1] at this
theorem bytes_set {l : List Int} {q : Nat} {y : Int} (h : bytes l) (hy : 0 ≤ y ∧ y ≤ 255) : bytes (l.set q y) := fun c hc => by
  rcases List.mem_or_eq_of_mem_set hc with h1 | rfl
  · exact h c h1
  · exact hy
theorem xor_one {x : Int} (h0 : 0 ≤ x ∧ x ≤ 255) : xorI .u8 x 1 ≠ x := by
  have key : ∀ x : Fin 256, xorI .u8 (x.val : Int) 1 ≠ (x.val : Int) := by decide +kernel
  have := key ⟨x.toNat, by omega⟩
  simp only at this
  rwa [Int.toNat_of_nonneg h0.1] at this
def turned (s : StampS) (q : Nat) : StampS := ⟨s.epoch, s.fr, s.to, s.time, s.commit, s.tag.set q (xorI .u8 (s.tag.getD q 0) 1)⟩
theorem turned_ne {l : List Int} {q : Nat} (hl : l.length = 32) (hb : bytes l) (hq : q < 32) : l ≠ l.set q (xorI .u8 (l.getD q 0) 1) := fun e => by
  have e2 := congrArg (fun l => l.getD q 0) e
  simp only [List.getD_eq_getElem?_getD, List.getElem?_set_self (show q < l.length by omega)] at e2
  exact xor_one (hb.get q) (by rw [List.getD_eq_getElem?_getD]; exact e2.symm)
theorem check_turned {root : List Int} {ticks now t : Int} {e : EnvS} (h : mayB e now = true) (ht : 1 ≤ ticks) (h2 : timeB t = true) {q : Nat} (hq : q < 32) : checkF root ticks (turned (stampF root ticks e now) q) t = 4 :=
  chk4 (s := turned (stampF root ticks e now) q) (stamp_right h ht) h2 (.inr (by
    rw [show tagF root (turned (stampF root ticks e now) q) = tagF root (stampF root ticks e now) from rfl, tag_stamp h]
    exact turned_ne stampF_tlen stampF_tb hq))

theorem stampWindow_calls (rl : List Int) (hl : rl.length = 32) (hrb : bytes rl) (e : EnvS) (hc : e.commit.length = 32) (hcb : bytes e.commit) (hpl : e.pub.length = 32) (xl : List Int) (hx : xl.length = 3) (w : World) :
    Calls Try.prog 12 [AG [(32, iv .u8 rl)], AG (enV e), AG [(3, iv .i64 xl)]].toArray w fun e' w' => e' = .returned (.bool true) ∧ HP w w' [] [] := by
 have hsc : ∀ r t n, (stampF r t e n).commit.length = 32 := fun _ _ _ => stampF_clen hc
 have hst : ∀ r t n, mayB e n = true → (stampF r t e n).time = n := fun _ _ _ h => by rw [stampF_t h]
 have hsb : ∀ r t n, bytes (stampF r t e n).commit := fun _ _ _ => stampF_cb hcb
 unfold enV
 refine calls_of_W Try.func12 rfl Try.ntmps12 rfl rfl (HP.refl w []) ?_
 refine sr ?_
 refine obxa (fun b3 => ?_)
 refine obxa (fun b4 => ?_)
 refine obxa (fun b5 => ?_)
 refine oas ?_
 refine nx ?_
 refine cp rfl (fun w hp => awake16_calls w) ?_
 refine oas ?_
 refine nq ?_
 refine W.seq ?_
 refine sr ?_
 refine ov (viA0 (j := 0) 3) ?_
 first | refine ov vldI ?_ | refine ov vld ?_
 refine ov (v2 V_lss) ?_
 refine omv ?_
 refine WL.splitD rfl (fun g1 => ?_) (fun g1 => ?_)
 · refine on rfl (decide_eq_true g1) ?_
   refine on rfl (decide_eq_true g1) ?_
   refine on rfl (decide_eq_true g1) ?_
   refine ov (V_pick_td rfl g1 rfl) ?_
   refine omv ?_
   refine on rfl rfl ?_
   refine on rfl rfl ?_
   refine on rfl rfl ?_
   refine ov (V_pick_t rfl rfl rfl) ?_
   refine omv ?_
   refine on rfl rfl ?_
   refine on rfl rfl ?_
   refine on rfl rfl ?_
   refine ov (V_pick_t rfl rfl rfl) ?_
   refine omv ?_
   refine on rfl rfl ?_
   refine on rfl rfl ?_
   refine on rfl rfl ?_
   refine ov (V_pick_t rfl rfl rfl) ?_
   refine omv ?_
   refine on rfl rfl ?_
   refine on rfl rfl ?_
   refine on rfl rfl ?_
   refine ov (V_pick_t rfl rfl rfl) ?_
   refine omv ?_
   refine on rfl rfl ?_
   refine on rfl rfl ?_
   refine on rfl rfl ?_
   refine ov (V_pick_t rfl rfl rfl) ?_
   refine omv ?_
   refine on rfl rfl ?_
   refine on rfl rfl ?_
   refine on rfl rfl ?_
   refine ov (V_pick_t rfl rfl rfl) ?_
   refine omv ?_
   refine on rfl rfl ?_
   refine on rfl rfl ?_
   refine on rfl rfl ?_
   refine ov (V_pick_t rfl rfl rfl) ?_
   refine omv ?_
   refine on rfl rfl ?_
   refine on rfl rfl ?_
   refine on rfl rfl ?_
   refine ov (V_pick_t rfl rfl rfl) ?_
   refine nq ?_
   refine W.cond_true rfl rfl ?_
   refine sr ?_
   refine omv ?_
   refine oas ?_
   refine nq ?_
   refine W.ret ?_
   refine WQ.then_ret ?_
   refine WQ.ret1 Try.results12 (.tmp rfl) ?_
   intro w' hp; exact ⟨by first | rfl | (simp; done) | (simp [*]; done) | simp_all, hp.forget⟩
 · refine oy rfl (decide_eq_false g1) ?_
   refine ov (viA0 (j := 0) 3) ?_
   refine oy rfl (decide_eq_false g1) ?_
   first | refine ov vldI ?_ | refine ov vld ?_
   refine oy rfl (decide_eq_false g1) ?_
   refine ov (v2 V_gtr) ?_
   refine ov (V_pick_fd rfl g1 rfl) ?_
   refine omv ?_
   refine WL.splitD rfl (fun g2 => ?_) (fun g2 => ?_)
   · refine on rfl (decide_eq_true g2) ?_
     refine on rfl (decide_eq_true g2) ?_
     refine on rfl (decide_eq_true g2) ?_
     refine ov (V_pick_td rfl g2 rfl) ?_
     refine omv ?_
     refine on rfl rfl ?_
     refine on rfl rfl ?_
     refine on rfl rfl ?_
     refine ov (V_pick_t rfl rfl rfl) ?_
     refine omv ?_
     refine on rfl rfl ?_
     refine on rfl rfl ?_
     refine on rfl rfl ?_
     refine ov (V_pick_t rfl rfl rfl) ?_
     refine omv ?_
     refine on rfl rfl ?_
     refine on rfl rfl ?_
     refine on rfl rfl ?_
     refine ov (V_pick_t rfl rfl rfl) ?_
     refine omv ?_
     refine on rfl rfl ?_
     refine on rfl rfl ?_
     refine on rfl rfl ?_
     refine ov (V_pick_t rfl rfl rfl) ?_
     refine omv ?_
     refine on rfl rfl ?_
     refine on rfl rfl ?_
     refine on rfl rfl ?_
     refine ov (V_pick_t rfl rfl rfl) ?_
     refine omv ?_
     refine on rfl rfl ?_
     refine on rfl rfl ?_
     refine on rfl rfl ?_
     refine ov (V_pick_t rfl rfl rfl) ?_
     refine omv ?_
     refine on rfl rfl ?_
     refine on rfl rfl ?_
     refine on rfl rfl ?_
     refine ov (V_pick_t rfl rfl rfl) ?_
     refine nq ?_
     refine W.cond_true rfl rfl ?_
     refine sr ?_
     refine omv ?_
     refine oas ?_
     refine nq ?_
     refine W.ret ?_
     refine WQ.then_ret ?_
     refine WQ.ret1 Try.results12 (.tmp rfl) ?_
     intro w' hp; exact ⟨by first | rfl | (simp; done) | (simp [*]; done) | simp_all, hp.forget⟩
   · refine oy rfl (decide_eq_false g2) ?_
     refine ov (viA0 (j := 1) 3) ?_
     refine oy rfl (decide_eq_false g2) ?_
     first | refine ov vldI ?_ | refine ov vld ?_
     refine oy rfl (decide_eq_false g2) ?_
     refine ov (v2 V_lss) ?_
     refine ov (V_pick_fd rfl g2 rfl) ?_
     refine omv ?_
     refine WL.splitD rfl (fun g3 => ?_) (fun g3 => ?_)
     · refine on rfl (decide_eq_true g3) ?_
       refine on rfl (decide_eq_true g3) ?_
       refine on rfl (decide_eq_true g3) ?_
       refine ov (V_pick_td rfl g3 rfl) ?_
       refine omv ?_
       refine on rfl rfl ?_
       refine on rfl rfl ?_
       refine on rfl rfl ?_
       refine ov (V_pick_t rfl rfl rfl) ?_
       refine omv ?_
       refine on rfl rfl ?_
       refine on rfl rfl ?_
       refine on rfl rfl ?_
       refine ov (V_pick_t rfl rfl rfl) ?_
       refine omv ?_
       refine on rfl rfl ?_
       refine on rfl rfl ?_
       refine on rfl rfl ?_
       refine ov (V_pick_t rfl rfl rfl) ?_
       refine omv ?_
       refine on rfl rfl ?_
       refine on rfl rfl ?_
       refine on rfl rfl ?_
       refine ov (V_pick_t rfl rfl rfl) ?_
       refine omv ?_
       refine on rfl rfl ?_
       refine on rfl rfl ?_
       refine on rfl rfl ?_
       refine ov (V_pick_t rfl rfl rfl) ?_
       refine omv ?_
       refine on rfl rfl ?_
       refine on rfl rfl ?_
       refine on rfl rfl ?_
       refine ov (V_pick_t rfl rfl rfl) ?_
       refine nq ?_
       refine W.cond_true rfl rfl ?_
       refine sr ?_
       refine omv ?_
       refine oas ?_
       refine nq ?_
       refine W.ret ?_
       refine WQ.then_ret ?_
       refine WQ.ret1 Try.results12 (.tmp rfl) ?_
       intro w' hp; exact ⟨by first | rfl | (simp; done) | (simp [*]; done) | simp_all, hp.forget⟩
     · refine oy rfl (decide_eq_false g3) ?_
       refine ov (viA0 (j := 1) 3) ?_
       refine oy rfl (decide_eq_false g3) ?_
       first | refine ov vldI ?_ | refine ov vld ?_
       refine oy rfl (decide_eq_false g3) ?_
       refine ov (v2 V_gtr) ?_
       refine ov (V_pick_fd rfl g3 rfl) ?_
       refine omv ?_
       refine WL.splitD rfl (fun g4 => ?_) (fun g4 => ?_)
       · refine on rfl (decide_eq_true g4) ?_
         refine on rfl (decide_eq_true g4) ?_
         refine on rfl (decide_eq_true g4) ?_
         refine ov (V_pick_td rfl g4 rfl) ?_
         refine omv ?_
         refine on rfl rfl ?_
         refine on rfl rfl ?_
         refine on rfl rfl ?_
         refine ov (V_pick_t rfl rfl rfl) ?_
         refine omv ?_
         refine on rfl rfl ?_
         refine on rfl rfl ?_
         refine on rfl rfl ?_
         refine ov (V_pick_t rfl rfl rfl) ?_
         refine omv ?_
         refine on rfl rfl ?_
         refine on rfl rfl ?_
         refine on rfl rfl ?_
         refine ov (V_pick_t rfl rfl rfl) ?_
         refine omv ?_
         refine on rfl rfl ?_
         refine on rfl rfl ?_
         refine on rfl rfl ?_
         refine ov (V_pick_t rfl rfl rfl) ?_
         refine omv ?_
         refine on rfl rfl ?_
         refine on rfl rfl ?_
         refine on rfl rfl ?_
         refine ov (V_pick_t rfl rfl rfl) ?_
         refine nq ?_
         refine W.cond_true rfl rfl ?_
         refine sr ?_
         refine omv ?_
         refine oas ?_
         refine nq ?_
         refine W.ret ?_
         refine WQ.then_ret ?_
         refine WQ.ret1 Try.results12 (.tmp rfl) ?_
         intro w' hp; exact ⟨by first | rfl | (simp; done) | (simp [*]; done) | simp_all, hp.forget⟩
       · refine oy rfl (decide_eq_false g4) ?_
         refine ov (viA0 (j := 2) 3) ?_
         refine oy rfl (decide_eq_false g4) ?_
         first | refine ov vldI ?_ | refine ov vld ?_
         refine oy rfl (decide_eq_false g4) ?_
         refine ov (v2 V_lss) ?_
         refine ov (V_pick_fd rfl g4 rfl) ?_
         refine omv ?_
         refine WL.splitD rfl (fun g5 => ?_) (fun g5 => ?_)
         · refine on rfl (decide_eq_true g5) ?_
           refine on rfl (decide_eq_true g5) ?_
           refine on rfl (decide_eq_true g5) ?_
           refine ov (V_pick_td rfl g5 rfl) ?_
           refine omv ?_
           refine on rfl rfl ?_
           refine on rfl rfl ?_
           refine on rfl rfl ?_
           refine ov (V_pick_t rfl rfl rfl) ?_
           refine omv ?_
           refine on rfl rfl ?_
           refine on rfl rfl ?_
           refine on rfl rfl ?_
           refine ov (V_pick_t rfl rfl rfl) ?_
           refine omv ?_
           refine on rfl rfl ?_
           refine on rfl rfl ?_
           refine on rfl rfl ?_
           refine ov (V_pick_t rfl rfl rfl) ?_
           refine omv ?_
           refine on rfl rfl ?_
           refine on rfl rfl ?_
           refine on rfl rfl ?_
           refine ov (V_pick_t rfl rfl rfl) ?_
           refine nq ?_
           refine W.cond_true rfl rfl ?_
           refine sr ?_
           refine omv ?_
           refine oas ?_
           refine nq ?_
           refine W.ret ?_
           refine WQ.then_ret ?_
           refine WQ.ret1 Try.results12 (.tmp rfl) ?_
           intro w' hp; exact ⟨by first | rfl | (simp; done) | (simp [*]; done) | simp_all, hp.forget⟩
         · refine oy rfl (decide_eq_false g5) ?_
           refine ov (viA0 (j := 2) 3) ?_
           refine oy rfl (decide_eq_false g5) ?_
           first | refine ov vldI ?_ | refine ov vld ?_
           refine oy rfl (decide_eq_false g5) ?_
           refine ov (v2 V_gtr) ?_
           refine ov (V_pick_fd rfl g5 rfl) ?_
           refine omv ?_
           refine WL.splitD rfl (fun g6 => ?_) (fun g6 => ?_)
           · refine on rfl (decide_eq_true g6) ?_
             refine on rfl (decide_eq_true g6) ?_
             refine on rfl (decide_eq_true g6) ?_
             refine ov (V_pick_td rfl g6 rfl) ?_
             refine omv ?_
             refine on rfl rfl ?_
             refine on rfl rfl ?_
             refine on rfl rfl ?_
             refine ov (V_pick_t rfl rfl rfl) ?_
             refine omv ?_
             refine on rfl rfl ?_
             refine on rfl rfl ?_
             refine on rfl rfl ?_
             refine ov (V_pick_t rfl rfl rfl) ?_
             refine omv ?_
             refine on rfl rfl ?_
             refine on rfl rfl ?_
             refine on rfl rfl ?_
             refine ov (V_pick_t rfl rfl rfl) ?_
             refine nq ?_
             refine W.cond_true rfl rfl ?_
             refine sr ?_
             refine omv ?_
             refine oas ?_
             refine nq ?_
             refine W.ret ?_
             refine WQ.then_ret ?_
             refine WQ.ret1 Try.results12 (.tmp rfl) ?_
             intro w' hp; exact ⟨by first | rfl | (simp; done) | (simp [*]; done) | simp_all, hp.forget⟩
           · refine oy rfl (decide_eq_false g6) ?_
             refine ov (vfa0 0 1) ?_
             refine oy rfl (decide_eq_false g6) ?_
             refine ov vld ?_
             refine oy rfl (decide_eq_false g6) ?_
             refine ov (v2 V_lss) ?_
             refine ov (V_pick_fd rfl g6 rfl) ?_
             refine omv ?_
             refine WL.splitD rfl (fun g7 => ?_) (fun g7 => ?_)
             · refine on rfl (decide_eq_true g7) ?_
               refine on rfl (decide_eq_true g7) ?_
               refine on rfl (decide_eq_true g7) ?_
               refine ov (V_pick_td rfl g7 rfl) ?_
               refine omv ?_
               refine on rfl rfl ?_
               refine on rfl rfl ?_
               refine on rfl rfl ?_
               refine ov (V_pick_t rfl rfl rfl) ?_
               refine omv ?_
               refine on rfl rfl ?_
               refine on rfl rfl ?_
               refine on rfl rfl ?_
               refine ov (V_pick_t rfl rfl rfl) ?_
               refine nq ?_
               refine W.cond_true rfl rfl ?_
               refine sr ?_
               refine omv ?_
               refine oas ?_
               refine nq ?_
               refine W.ret ?_
               refine WQ.then_ret ?_
               refine WQ.ret1 Try.results12 (.tmp rfl) ?_
               intro w' hp; exact ⟨by first | rfl | (simp; done) | (simp [*]; done) | simp_all, hp.forget⟩
             · refine oy rfl (decide_eq_false g7) ?_
               refine ov (vfa0 0 1) ?_
               refine oy rfl (decide_eq_false g7) ?_
               refine ov vld ?_
               refine oy rfl (decide_eq_false g7) ?_
               refine ov (v2 V_gtr) ?_
               refine ov (V_pick_fd rfl g7 rfl) ?_
               refine omv ?_
               refine WL.splitD rfl (fun g8 => ?_) (fun g8 => ?_)
               · refine on rfl (decide_eq_true g8) ?_
                 refine on rfl (decide_eq_true g8) ?_
                 refine on rfl (decide_eq_true g8) ?_
                 refine ov (V_pick_td rfl g8 rfl) ?_
                 refine omv ?_
                 refine on rfl rfl ?_
                 refine on rfl rfl ?_
                 refine on rfl rfl ?_
                 refine ov (V_pick_t rfl rfl rfl) ?_
                 refine nq ?_
                 refine W.cond_true rfl rfl ?_
                 refine sr ?_
                 refine omv ?_
                 refine oas ?_
                 refine nq ?_
                 refine W.ret ?_
                 refine WQ.then_ret ?_
                 refine WQ.ret1 Try.results12 (.tmp rfl) ?_
                 intro w' hp; exact ⟨by first | rfl | (simp; done) | (simp [*]; done) | simp_all, hp.forget⟩
               · refine oy rfl (decide_eq_false g8) ?_
                 refine ov (vfa0 1 1) ?_
                 refine oy rfl (decide_eq_false g8) ?_
                 refine ov vld ?_
                 refine oy rfl (decide_eq_false g8) ?_
                 refine ov (v2 V_lss) ?_
                 refine ov (V_pick_fd rfl g8 rfl) ?_
                 refine omv ?_
                 refine WL.splitD rfl (fun g9 => ?_) (fun g9 => ?_)
                 · refine on rfl (decide_eq_true g9) ?_
                   refine on rfl (decide_eq_true g9) ?_
                   refine on rfl (decide_eq_true g9) ?_
                   refine ov (V_pick_td rfl g9 rfl) ?_
                   refine nq ?_
                   refine W.cond_true rfl rfl ?_
                   refine sr ?_
                   refine omv ?_
                   refine oas ?_
                   refine nq ?_
                   refine W.ret ?_
                   refine WQ.then_ret ?_
                   refine WQ.ret1 Try.results12 (.tmp rfl) ?_
                   intro w' hp; exact ⟨by first | rfl | (simp; done) | (simp [*]; done) | simp_all, hp.forget⟩
                 · refine oy rfl (decide_eq_false g9) ?_
                   refine ov (vfa0 1 1) ?_
                   refine oy rfl (decide_eq_false g9) ?_
                   refine ov vld ?_
                   refine oy rfl (decide_eq_false g9) ?_
                   refine ov (v2 V_gtr) ?_
                   refine ov (V_pick_fd rfl g9 rfl) ?_
                   refine nq ?_
                   refine W.cond_dec rfl (fun g10 => ?_) (fun g10 => ?_)
                   · refine W.seq ?_
                     refine W.region ?_
                     refine omv ?_
                     refine oas ?_
                     refine nq ?_
                     refine W.ret ?_
                     refine WQ.then_ret ?_
                     refine WQ.ret1 Try.results12 (.tmp rfl) ?_
                     intro w' hp; exact ⟨by first | rfl | (simp; done) | (simp [*]; done) | simp_all, hp.forget⟩
                   · refine W.skip ?_
                     refine WQ.then ?_
                     refine W.seq ?_
                     have hq : 1 ≤ xl.getD 0 0 ∧ xl.getD 0 0 ≤ 1000000 := by omega
                     have hm : mayB e (xl.getD 1 0) = true := by simp only [mayB, timeB, acB, Bool.and_eq_true, decide_eq_true_eq]; omega
                     have htm : timeB (xl.getD 2 0) = true := by simp only [timeB, Bool.and_eq_true, decide_eq_true_eq]; omega
                     have hb1 := (stampF_tb (root := rl) (ticks := xl.getD 0 0) (e := e) (now := xl.getD 1 0)).get (xl.getD 2 0 % 32).toNat
                     have htl : (turned (stampF rl (xl.getD 0 0) e (xl.getD 1 0)) (xl.getD 2 0 % 32).toNat).tag.length = 32 := by simp [turned]
                     have htb : bytes (turned (stampF rl (xl.getD 0 0) e (xl.getD 1 0)) (xl.getD 2 0 % 32).toNat).tag := by simp only [turned]; exact bytes_set stampF_tb (xor_bd hb1)
                     refine W.region ?_
                     refine ov (vlda 32) ?_
                     refine ov (viA0 (j := 0) 3) ?_
                     first | refine ov vldI ?_ | refine ov vld ?_
                     refine cg rfl (fun w hp => new16_calls rl (xl.getD 0 0) hl hq w) (fun b68 h68 => ?_)
                     refine omv ?_
                     refine ov vex ?_
                     refine ov vex ?_
                     refine oas ?_
                     refine oas ?_
                     refine nq ?_
                     refine W.seq ?_
                     refine sr ?_
                     refine omv ?_
                     refine ov (V_eqlP (by kernel_rfl) rfl rfl) ?_
                     refine omv ?_
                     refine oy rfl rfl ?_
                     refine omv ?_
                     refine oy rfl rfl ?_
                     refine ov (v2 V_neq) ?_
                     refine ov (V_pick_f rfl rfl rfl) ?_
                     refine nq ?_
                     refine W.cond_false rfl (by decide) ?_
                     refine W.skip ?_
                     refine WQ.then ?_
                     refine sr ?_
                     refine omv ?_
                     refine ov (vlda 69) ?_
                     refine ov (viA0 (j := 1) 3) ?_
                     first | refine ov vldI ?_ | refine ov vld ?_
                     refine cg rfl (fun w hp => stamp_calls e (xl.getD 1 0) hc hcb hpl b68 (xl.getD 0 0) rl [] 0 w rat (hh hp) Good.nil hl hrb hq.1) (fun b82 h82 => ?_)
                     refine omv ?_
                     refine ov vex ?_
                     refine ov vex ?_
                     unfold stV
                     refine oal [(1, [.int .i64 0]), (1, [.int .i64 0]), (1, [.int .i64 0]), (1, [.int .i64 0]), (32, List.replicate 32 (.int .u8 0)), (32, List.replicate 32 (.int .u8 0))] (fun b10 => ?_)
                     refine osta 68 ?_
                     refine oas ?_
                     refine nx ?_
                     refine ov (vlda 68) ?_
                     refine oal [(1, [.int .i64 0]), (1, [.int .i64 0]), (1, [.int .i64 0]), (1, [.int .i64 0]), (32, List.replicate 32 (.int .u8 0)), (32, List.replicate 32 (.int .u8 0))] (fun b12 => ?_)
                     refine osta 68 ?_
                     refine nx ?_
                     refine ov (viA0 (j := 2) 3) ?_
                     first | refine ov vldI ?_ | refine ov vld ?_
                     first | refine ov vrem ?_ | refine ov (V_rem rfl rfl (by omega)) ?_
                     refine ov (vfa0 36 32) ?_
                     first | refine ov (viAP 32) ?_ | refine ov (viAPZ 32) ?_
                     refine ov (vldP 36) ?_
                     refine ov (v2 V_xor) ?_
                     refine ov (vfa0 36 32) ?_
                     first | refine ov (viAP 32) ?_ | refine ov (viAPZ 32) ?_
                     refine ostP 36 ?_
                     refine nx ?_
                     refine oas ?_
                     refine nq ?_
                     refine W.seq ?_
                     refine sr ?_
                     refine ov (viA0 (j := 2) 3) ?_
                     first | refine ov vldI ?_ | refine ov vld ?_
                     refine ov (viA0 (j := 1) 3) ?_
                     first | refine ov vldI ?_ | refine ov vld ?_
                     refine ov (v2 V_lss) ?_
                     refine omv ?_
                     refine WL.splitD rfl (fun g11 => ?_) (fun g11 => ?_)
                     · refine on rfl (decide_eq_true g11) ?_
                       refine on rfl (decide_eq_true g11) ?_
                       refine on rfl (decide_eq_true g11) ?_
                       refine on rfl (decide_eq_true g11) ?_
                       refine on rfl (decide_eq_true g11) ?_
                       refine on rfl (decide_eq_true g11) ?_
                       refine ov (V_pick_td rfl g11 rfl) ?_
                       refine nq ?_
                       refine W.cond_true rfl rfl ?_
                       refine W.region ?_
                       refine oas ?_
                       refine nx ?_
                       refine omv ?_
                       refine omv ?_
                       refine oy rfl rfl ?_
                       refine omv ?_
                       refine oy rfl rfl ?_
                       refine ov (v2 V_eql) ?_
                       refine ov (V_pick_t rfl rfl rfl) ?_
                       refine omv ?_
                       refine oy rfl (by rw [if_pos hm]; rfl) ?_
                       refine omv ?_
                       refine oy rfl (by rw [if_pos hm]; rfl) ?_
                       refine ov (vlda 68) ?_
                       refine oy rfl (by rw [if_pos hm]; rfl) ?_
                       refine ov (viA0 (j := 2) 3) ?_
                       refine oy rfl (by rw [if_pos hm]; rfl) ?_
                       first | refine ov vldI ?_ | refine ov vld ?_
                       refine oy rfl (by rw [if_pos hm]; rfl) ?_
                       refine cg rfl (fun w hp => chk16_calls (stampF rl (xl.getD 0 0) e (xl.getD 1 0)) (xl.getD 2 0) (hsc _ _ _) (hsb _ _ _) stampF_tlen stampF_tb b68 (xl.getD 0 0) rl b82.1 b82.2 w rat (hh hp) h82 hl hrb hq.1) (fun b118 h118 => ?_)
                       refine oy rfl (by rw [if_pos hm]; rfl) ?_
                       refine omv ?_
                       refine oy rfl (by rw [if_pos hm]; rfl) ?_
                       refine ov (v2 V_eql) ?_
                       refine ov (V_pick_t rfl (by rw [if_pos hm]; rfl) rfl) ?_
                       refine omv ?_
                       refine oy rfl (decide_eq_true (by rw [check_stamp hm hq.1 htm]; first | exact if_pos (by omega) | exact if_neg (by omega))) ?_
                       refine omv ?_
                       refine oy rfl (decide_eq_true (by rw [check_stamp hm hq.1 htm]; first | exact if_pos (by omega) | exact if_neg (by omega))) ?_
                       refine ov (vlda 68) ?_
                       refine oy rfl (decide_eq_true (by rw [check_stamp hm hq.1 htm]; first | exact if_pos (by omega) | exact if_neg (by omega))) ?_
                       refine ov (viA0 (j := 2) 3) ?_
                       refine oy rfl (decide_eq_true (by rw [check_stamp hm hq.1 htm]; first | exact if_pos (by omega) | exact if_neg (by omega))) ?_
                       first | refine ov vldI ?_ | refine ov vld ?_
                       refine oy rfl (decide_eq_true (by rw [check_stamp hm hq.1 htm]; first | exact if_pos (by omega) | exact if_neg (by omega))) ?_
                       refine cg rfl (fun w hp => chk16_calls (turned (stampF rl (xl.getD 0 0) e (xl.getD 1 0)) (xl.getD 2 0 % 32).toNat) (xl.getD 2 0) (hsc _ _ _) (hsb _ _ _) htl htb b68 (xl.getD 0 0) rl b118.1 b118.2 w rat (hh hp) h118 hl hrb hq.1) (fun b127 h127 => ?_)
                       refine oy rfl (decide_eq_true (by rw [check_stamp hm hq.1 htm]; first | exact if_pos (by omega) | exact if_neg (by omega))) ?_
                       refine ov (v2 V_eql) ?_
                       refine ov (V_pick_t rfl (decide_eq_true (by rw [check_stamp hm hq.1 htm]; first | exact if_pos (by omega) | exact if_neg (by omega))) rfl) ?_
                       refine omv ?_
                       refine oy rfl (decide_eq_true (check_turned hm hq.1 htm (by omega))) ?_
                       refine ov (vfa0 4 32) ?_
                       refine oy rfl (decide_eq_true (check_turned hm hq.1 htm (by omega))) ?_
                       refine ov (vlda 32) ?_
                       refine oy rfl (decide_eq_true (check_turned hm hq.1 htm (by omega))) ?_
                       refine ov (vfa0 2 32) ?_
                       refine oy rfl (decide_eq_true (check_turned hm hq.1 htm (by omega))) ?_
                       refine ov (vlda 32) ?_
                       refine oy rfl (decide_eq_true (check_turned hm hq.1 htm (by omega))) ?_
                       refine ov (veqlI 3 32 .u8) ?_
                       refine ov (V_pick_t rfl (decide_eq_true (check_turned hm hq.1 htm (by omega))) rfl) ?_
                       refine omv ?_
                       refine oy rfl (decide_eq_true (by rw [stampF_t hm])) ?_
                       refine ov (vfa0 3 1) ?_
                       refine oy rfl (decide_eq_true (by rw [stampF_t hm])) ?_
                       refine ov vld ?_
                       refine oy rfl (decide_eq_true (by rw [stampF_t hm])) ?_
                       refine ov (viA0 (j := 1) 3) ?_
                       refine oy rfl (decide_eq_true (by rw [stampF_t hm])) ?_
                       first | refine ov vldI ?_ | refine ov vld ?_
                       refine oy rfl (decide_eq_true (by rw [stampF_t hm])) ?_
                       refine ov (v2 V_eql) ?_
                       refine ov (V_pick_t rfl (decide_eq_true (by rw [stampF_t hm])) rfl) ?_
                       refine oas ?_
                       refine nq ?_
                       refine W.ret ?_
                       refine WQ.ret1 Try.results12 (.tmp rfl) ?_
                       intro w' hp; exact ⟨by first | rfl | (simp; done) | (simp [*]; done) | simp_all, hp.forget⟩
                     · refine oy rfl (decide_eq_false g11) ?_
                       refine ov (viA0 (j := 2) 3) ?_
                       refine oy rfl (decide_eq_false g11) ?_
                       first | refine ov vldI ?_ | refine ov vld ?_
                       refine oy rfl (decide_eq_false g11) ?_
                       refine ov (viA0 (j := 1) 3) ?_
                       refine oy rfl (decide_eq_false g11) ?_
                       first | refine ov vldI ?_ | refine ov vld ?_
                       refine oy rfl (decide_eq_false g11) ?_
                       first | refine ov vaddN ?_ | refine ov vadd ?_
                       refine oy rfl (decide_eq_false g11) ?_
                       refine ov (v2 V_gtr) ?_
                       refine ov (V_pick_fd rfl g11 rfl) ?_
                       refine nq ?_
                       refine W.cond_dec rfl (fun g12 => ?_) (fun g12 => ?_)
                       · refine W.region ?_
                         refine oas ?_
                         refine nx ?_
                         refine omv ?_
                         refine omv ?_
                         refine oy rfl rfl ?_
                         refine omv ?_
                         refine oy rfl rfl ?_
                         refine ov (v2 V_eql) ?_
                         refine ov (V_pick_t rfl rfl rfl) ?_
                         refine omv ?_
                         refine oy rfl (by rw [if_pos hm]; rfl) ?_
                         refine omv ?_
                         refine oy rfl (by rw [if_pos hm]; rfl) ?_
                         refine ov (vlda 68) ?_
                         refine oy rfl (by rw [if_pos hm]; rfl) ?_
                         refine ov (viA0 (j := 2) 3) ?_
                         refine oy rfl (by rw [if_pos hm]; rfl) ?_
                         first | refine ov vldI ?_ | refine ov vld ?_
                         refine oy rfl (by rw [if_pos hm]; rfl) ?_
                         refine cg rfl (fun w hp => chk16_calls (stampF rl (xl.getD 0 0) e (xl.getD 1 0)) (xl.getD 2 0) (hsc _ _ _) (hsb _ _ _) stampF_tlen stampF_tb b68 (xl.getD 0 0) rl b82.1 b82.2 w rat (hh hp) h82 hl hrb hq.1) (fun b118 h118 => ?_)
                         refine oy rfl (by rw [if_pos hm]; rfl) ?_
                         refine omv ?_
                         refine oy rfl (by rw [if_pos hm]; rfl) ?_
                         refine ov (v2 V_eql) ?_
                         refine ov (V_pick_t rfl (by rw [if_pos hm]; rfl) rfl) ?_
                         refine omv ?_
                         refine oy rfl (decide_eq_true (by rw [check_stamp hm hq.1 htm]; first | exact if_pos (by omega) | exact if_neg (by omega))) ?_
                         refine omv ?_
                         refine oy rfl (decide_eq_true (by rw [check_stamp hm hq.1 htm]; first | exact if_pos (by omega) | exact if_neg (by omega))) ?_
                         refine ov (vlda 68) ?_
                         refine oy rfl (decide_eq_true (by rw [check_stamp hm hq.1 htm]; first | exact if_pos (by omega) | exact if_neg (by omega))) ?_
                         refine ov (viA0 (j := 2) 3) ?_
                         refine oy rfl (decide_eq_true (by rw [check_stamp hm hq.1 htm]; first | exact if_pos (by omega) | exact if_neg (by omega))) ?_
                         first | refine ov vldI ?_ | refine ov vld ?_
                         refine oy rfl (decide_eq_true (by rw [check_stamp hm hq.1 htm]; first | exact if_pos (by omega) | exact if_neg (by omega))) ?_
                         refine cg rfl (fun w hp => chk16_calls (turned (stampF rl (xl.getD 0 0) e (xl.getD 1 0)) (xl.getD 2 0 % 32).toNat) (xl.getD 2 0) (hsc _ _ _) (hsb _ _ _) htl htb b68 (xl.getD 0 0) rl b118.1 b118.2 w rat (hh hp) h118 hl hrb hq.1) (fun b127 h127 => ?_)
                         refine oy rfl (decide_eq_true (by rw [check_stamp hm hq.1 htm]; first | exact if_pos (by omega) | exact if_neg (by omega))) ?_
                         refine ov (v2 V_eql) ?_
                         refine ov (V_pick_t rfl (decide_eq_true (by rw [check_stamp hm hq.1 htm]; first | exact if_pos (by omega) | exact if_neg (by omega))) rfl) ?_
                         refine omv ?_
                         refine oy rfl (decide_eq_true (check_turned hm hq.1 htm (by omega))) ?_
                         refine ov (vfa0 4 32) ?_
                         refine oy rfl (decide_eq_true (check_turned hm hq.1 htm (by omega))) ?_
                         refine ov (vlda 32) ?_
                         refine oy rfl (decide_eq_true (check_turned hm hq.1 htm (by omega))) ?_
                         refine ov (vfa0 2 32) ?_
                         refine oy rfl (decide_eq_true (check_turned hm hq.1 htm (by omega))) ?_
                         refine ov (vlda 32) ?_
                         refine oy rfl (decide_eq_true (check_turned hm hq.1 htm (by omega))) ?_
                         refine ov (veqlI 3 32 .u8) ?_
                         refine ov (V_pick_t rfl (decide_eq_true (check_turned hm hq.1 htm (by omega))) rfl) ?_
                         refine omv ?_
                         refine oy rfl (decide_eq_true (by rw [stampF_t hm])) ?_
                         refine ov (vfa0 3 1) ?_
                         refine oy rfl (decide_eq_true (by rw [stampF_t hm])) ?_
                         refine ov vld ?_
                         refine oy rfl (decide_eq_true (by rw [stampF_t hm])) ?_
                         refine ov (viA0 (j := 1) 3) ?_
                         refine oy rfl (decide_eq_true (by rw [stampF_t hm])) ?_
                         first | refine ov vldI ?_ | refine ov vld ?_
                         refine oy rfl (decide_eq_true (by rw [stampF_t hm])) ?_
                         refine ov (v2 V_eql) ?_
                         refine ov (V_pick_t rfl (decide_eq_true (by rw [stampF_t hm])) rfl) ?_
                         refine oas ?_
                         refine nq ?_
                         refine W.ret ?_
                         refine WQ.ret1 Try.results12 (.tmp rfl) ?_
                         intro w' hp; exact ⟨by first | rfl | (simp; done) | (simp [*]; done) | simp_all, hp.forget⟩
                       · refine W.skip ?_
                         refine WQ.then ?_
                         refine sr ?_
                         refine omv ?_
                         refine omv ?_
                         refine oy rfl rfl ?_
                         refine omv ?_
                         refine oy rfl rfl ?_
                         refine ov (v2 V_eql) ?_
                         refine ov (V_pick_t rfl rfl rfl) ?_
                         refine omv ?_
                         refine oy rfl (by rw [if_pos hm]; rfl) ?_
                         refine omv ?_
                         refine oy rfl (by rw [if_pos hm]; rfl) ?_
                         refine ov (vlda 68) ?_
                         refine oy rfl (by rw [if_pos hm]; rfl) ?_
                         refine ov (viA0 (j := 2) 3) ?_
                         refine oy rfl (by rw [if_pos hm]; rfl) ?_
                         first | refine ov vldI ?_ | refine ov vld ?_
                         refine oy rfl (by rw [if_pos hm]; rfl) ?_
                         refine cg rfl (fun w hp => chk16_calls (stampF rl (xl.getD 0 0) e (xl.getD 1 0)) (xl.getD 2 0) (hsc _ _ _) (hsb _ _ _) stampF_tlen stampF_tb b68 (xl.getD 0 0) rl b82.1 b82.2 w rat (hh hp) h82 hl hrb hq.1) (fun b118 h118 => ?_)
                         refine oy rfl (by rw [if_pos hm]; rfl) ?_
                         refine omv ?_
                         refine oy rfl (by rw [if_pos hm]; rfl) ?_
                         refine ov (v2 V_eql) ?_
                         refine ov (V_pick_t rfl (by rw [if_pos hm]; rfl) rfl) ?_
                         refine omv ?_
                         refine oy rfl (decide_eq_true (by rw [check_stamp hm hq.1 htm]; first | exact if_pos (by omega) | exact if_neg (by omega))) ?_
                         refine omv ?_
                         refine oy rfl (decide_eq_true (by rw [check_stamp hm hq.1 htm]; first | exact if_pos (by omega) | exact if_neg (by omega))) ?_
                         refine ov (vlda 68) ?_
                         refine oy rfl (decide_eq_true (by rw [check_stamp hm hq.1 htm]; first | exact if_pos (by omega) | exact if_neg (by omega))) ?_
                         refine ov (viA0 (j := 2) 3) ?_
                         refine oy rfl (decide_eq_true (by rw [check_stamp hm hq.1 htm]; first | exact if_pos (by omega) | exact if_neg (by omega))) ?_
                         first | refine ov vldI ?_ | refine ov vld ?_
                         refine oy rfl (decide_eq_true (by rw [check_stamp hm hq.1 htm]; first | exact if_pos (by omega) | exact if_neg (by omega))) ?_
                         refine cg rfl (fun w hp => chk16_calls (turned (stampF rl (xl.getD 0 0) e (xl.getD 1 0)) (xl.getD 2 0 % 32).toNat) (xl.getD 2 0) (hsc _ _ _) (hsb _ _ _) htl htb b68 (xl.getD 0 0) rl b118.1 b118.2 w rat (hh hp) h118 hl hrb hq.1) (fun b127 h127 => ?_)
                         refine oy rfl (decide_eq_true (by rw [check_stamp hm hq.1 htm]; first | exact if_pos (by omega) | exact if_neg (by omega))) ?_
                         refine ov (v2 V_eql) ?_
                         refine ov (V_pick_t rfl (decide_eq_true (by rw [check_stamp hm hq.1 htm]; first | exact if_pos (by omega) | exact if_neg (by omega))) rfl) ?_
                         refine omv ?_
                         refine oy rfl (decide_eq_true (check_turned hm hq.1 htm (by omega))) ?_
                         refine ov (vfa0 4 32) ?_
                         refine oy rfl (decide_eq_true (check_turned hm hq.1 htm (by omega))) ?_
                         refine ov (vlda 32) ?_
                         refine oy rfl (decide_eq_true (check_turned hm hq.1 htm (by omega))) ?_
                         refine ov (vfa0 2 32) ?_
                         refine oy rfl (decide_eq_true (check_turned hm hq.1 htm (by omega))) ?_
                         refine ov (vlda 32) ?_
                         refine oy rfl (decide_eq_true (check_turned hm hq.1 htm (by omega))) ?_
                         refine ov (veqlI 3 32 .u8) ?_
                         refine ov (V_pick_t rfl (decide_eq_true (check_turned hm hq.1 htm (by omega))) rfl) ?_
                         refine omv ?_
                         refine oy rfl (decide_eq_true (by rw [stampF_t hm])) ?_
                         refine ov (vfa0 3 1) ?_
                         refine oy rfl (decide_eq_true (by rw [stampF_t hm])) ?_
                         refine ov vld ?_
                         refine oy rfl (decide_eq_true (by rw [stampF_t hm])) ?_
                         refine ov (viA0 (j := 1) 3) ?_
                         refine oy rfl (decide_eq_true (by rw [stampF_t hm])) ?_
                         first | refine ov vldI ?_ | refine ov vld ?_
                         refine oy rfl (decide_eq_true (by rw [stampF_t hm])) ?_
                         refine ov (v2 V_eql) ?_
                         refine ov (V_pick_t rfl (decide_eq_true (by rw [stampF_t hm])) rfl) ?_
                         refine oas ?_
                         refine nq ?_
                         refine W.ret ?_
                         refine WQ.ret1 Try.results12 (.tmp rfl) ?_
                         intro w' hp; exact ⟨by first | rfl | (simp; done) | (simp [*]; done) | simp_all, hp.forget⟩

theorem numH_high4 {x : Int} (h : 0 ≤ x ∧ x ≤ 1000000) : numH (highF x 4) = x := by
  rw [highF_succ, highF_succ, highF_succ, highF_succ, lowB_eq h.1 (by decide), lowB_eq h.1 (by decide), lowB_eq h.1 (by decide), lowB_eq h.1 (by decide)]
  simp only [IntKind.wrap_u8, numH, List.foldl_cons, highF, lowF, List.range_zero, List.map_nil, List.reverse_nil, List.foldl_nil]
  simp only [show (256 : Int) ^ 3 = 16777216 from rfl, show (256 : Int) ^ 2 = 65536 from rfl, show (256 : Int) ^ 1 = 256 from rfl, show (256 : Int) ^ 0 = 1 from rfl]
  omega
theorem read_bytes {s : StampS} (h : rightB s = true) (hc : s.commit.length = 32) (ht : s.tag.length = 32) : readS (bytesL s) = s := by
  have hb := right_bd h
  have t8 : ∀ y, (highF y 4).take 8 = highF y 4 := fun y => List.take_of_length_le (by simp)
  have d6 : ∀ (y : Int) (k : Nat), (highF y 4).drop (k + 4) = [] := fun y k => List.drop_of_length_le (by simp)
  have e1 : ((bytesL s).take 4).take 8 = highF s.epoch 4 := by simp [bytesL, t8]
  have e2 : (((bytesL s).drop 6).take (10 - 6)).take 8 = highF s.time 4 := by simp [bytesL, List.drop_append, t8, d6 _ 2]
  have e3 : (bytesL s).getD 4 0 = s.fr := by simp [bytesL]
  have e4 : (bytesL s).getD 5 0 = s.to := by simp [bytesL, List.getElem?_append]
  have tt : s.tag.take 32 = s.tag := List.take_of_length_le (by omega)
  have e5 : ((bytesL s).drop 10).take 32 = s.commit := by simp [bytesL, List.drop_append, d6 _ 6, hc]
  have e6 : ((bytesL s).drop 42).take 32 = s.tag := by simp [bytesL, List.drop_append, d6 _ 38, d6 _ 32, hc, tt]
  unfold readS
  rw [e1, e2, e3, e4, e5, e6, numH_high4 hb.1, numH_high4 hb.2.1]
theorem read_ok {s : StampS} (h : rightB s = true) (hc : s.commit.length = 32) (ht : s.tag.length = 32) : readE (bytesL s) = 0 := by
  have hl := bytesL_len hc ht
  exact readE0 (by omega) (by rw [read_bytes h hc ht]; rintro (e | e); omega; rw [h] at e; cases e)
theorem bF_len {s : StampS} (hc : s.commit.length = 32) (ht : s.tag.length = 32) : (bF s).length = bN s := by
  unfold bF bN; split
  · exact bytesL_len hc ht
  · rfl
theorem bF_bytes {s : StampS} (hcb : bytes s.commit) (htb : bytes s.tag) : bytes (bF s) := by
  unfold bF; split
  · rename_i h; exact bytesL_bytes h hcb htb
  · simp
theorem bN_le {s : StampS} : bN s ≤ 74 := by unfold bN; split <;> omega
theorem zeroL_c : StampS.zero.commit.length = 32 := rfl
@[simp] theorem readF_c {l : List Int} : (readF l).commit.length = 32 := by
  unfold readF; split
  · rename_i h
    by_cases h2 : l.length < 74
    · rw [readE3 h2] at h; cases h
    · exact readS_c (by omega)
  · rfl
@[simp] theorem readF_t {l : List Int} : (readF l).tag.length = 32 := by
  unfold readF; split
  · rename_i h
    by_cases h2 : l.length < 74
    · rw [readE3 h2] at h; cases h
    · exact readS_t (by omega)
  · rfl
theorem bytes_zero : bytes (List.replicate 32 0) := fun c hc => by rw [List.eq_of_mem_replicate hc]; omega
theorem readF_cb {l : List Int} (hb : bytes l) : bytes (readF l).commit := by
  unfold readF; split
  · exact (hb.drop 10).take 32
  · exact bytes_zero
theorem readF_tb {l : List Int} (hb : bytes l) : bytes (readF l).tag := by
  unfold readF; split
  · exact (hb.drop 42).take 32
  · exact bytes_zero
/-- What is read has just these bytes. -/
theorem read_back {l : List Int} (hb : bytes l) (h : readE l = 0) : rightB (readF l) = true ∧ bytesL (readF l) = l := by
  have h74 : 74 ≤ l.length := by
    by_cases h2 : l.length < 74
    · rw [readE3 h2] at h; cases h
    · omega
  rw [readFg h]
  rw [readE_ref hb h74] at h
  split at h
  · rename_i h1; exact h1
  · cases h

theorem stampChecks_calls (rl : List Int) (hl : rl.length = 32) (hrb : bytes rl) (s : StampS) (hc : s.commit.length = 32) (hcb : bytes s.commit) (ht : s.tag.length = 32) (htb : bytes s.tag) (A : Option Addr) (n cap : Nat) (xl : List Int) (w : World) (hs : SrW w 1 A n (iv .i64 xl)) (hn : n ≤ cap) (hn2 : n ≤ 9223372036854775807) :
    Calls Try.prog 13 [AG [(32, iv .u8 rl)], AG (stV s), .slice A n cap].toArray w fun e' w' => e' = .returned (.bool true) ∧ HP w w' [] [] := by
 have hxl := SrW.ilen hs
 have hfl := bF_len hc ht
 have hfb := bF_bytes hcb htb
 have hfn := bN_le (s := s)
 unfold stV
 refine calls_of_W Try.func13 rfl Try.ntmps13 rfl rfl (HP.refl w []) ?_
 refine sr ?_
 refine obxa (fun b3 => ?_)
 refine obxa (fun b4 => ?_)
 refine oas ?_
 refine nx ?_
 refine cp rfl (fun w hp => awake16_calls w) ?_
 refine oas ?_
 refine nx ?_
 refine ov (vlda 32) ?_
 refine cg rfl (fun w hp => new16_calls rl 5 hl (by omega) w) (fun b18 h18 => ?_)
 refine omv ?_
 refine ov vex ?_
 refine ov vex ?_
 refine oas ?_
 refine oas ?_
 refine nq ?_
 refine W.seq ?_
 refine sr ?_
 refine omv ?_
 refine ov (V_eqlP (by kernel_rfl) rfl rfl) ?_
 refine omv ?_
 refine oy rfl rfl ?_
 refine omv ?_
 refine oy rfl rfl ?_
 refine ov (v2 V_neq) ?_
 refine ov (V_pick_f rfl rfl rfl) ?_
 refine nq ?_
 refine W.cond_false rfl (by decide) ?_
 refine W.skip ?_
 refine WQ.then ?_
 refine W.seq ?_
 refine sr ?_
 refine oas ?_
 refine nq ?_
 refine W.block ?_
 -- LOOP 0
 refine W.pick (S' := [(10, _), (0, _), (1, _), (2, _), (3, _), (4, _), (6, _), (7, _), (8, _), (9, _), (26, _)]) [10, 0, 1, 2, 3, 4, 6, 7, 8, 9, 26] rfl ?_
 refine W.loopG (σ := Nat × List Ent × Nat) (fun ⟨i, r⟩ => (i ≤ n ∧ i ≤ 12) ∧ Good rl r.1) (fun ⟨i, r⟩ => [(10, .int .i64 (i : Nat))]) (fun ⟨i, r⟩ => [(b18.m, .obj (mapO .i64 r.1 r.2))]) [(b18.r, _), (b18.v, _), (b18.k, _), (b4, _), (b3, _)] (fun ⟨i, r⟩ => []) (fun ⟨i, r⟩ => n - i) (0, [], 0) rfl cov ⟨⟨Nat.zero_le _, by decide⟩, Good.nil⟩ ?_
 rintro ⟨i, r⟩ ⟨⟨hi, hi2⟩, hgr⟩; dsimp only at hi hi2 hgr ⊢
 refine W.seq ?_
 refine sr ?_
 refine omv ?_
 refine omv ?_
 refine ov vlenS ?_
 refine ov (v2 V_lss) ?_
 refine omv ?_
 refine WL.splitD rfl (fun g1 => ?_) (fun g1 => ?_)
 · refine oy rfl (decide_eq_true g1) ?_
   refine omv ?_
   refine oy rfl (decide_eq_true g1) ?_
   refine ov (v2 V_lss) ?_
   refine ov (V_pick_td rfl g1 rfl) ?_
   refine nq ?_
   refine W.cond_dec rfl (fun g2 => ?_) (fun g2 => ?_)
   · refine W.skip ?_
     refine WQ.then ?_
     refine W.seq ?_
     refine W.block ?_
     refine W.seq ?_
     obtain ⟨bbA, ooA, rfl⟩ := hs.hasN sc
     refine dr (.q 0 (.q 1 (.q 2 (.q 3 (.q 4 (.q 5 (.q 7 (.q 8 (.q 9 (.q 10 (.q 11 (.q 12 (.l 6 (.l 13 (.q 14 (.done)))))))))))))))) [(b4, _), (b3, _)] ?_
     refine dq rfl (V_move rfl) ?_
     refine dq rfl (vlda 68) ?_
     refine dq rfl (V_move rfl) ?_
     refine dq rfl (V_move rfl) ?_
     first | refine dq rfl viS1 ?_ | refine dq rfl viS1Z ?_
     refine dq rfl (vldS _) ?_
     refine dq rfl (vlda 32) ?_
     refine dq rfl (vlda 68) ?_
     refine dq rfl (V_move rfl) ?_
     refine dq rfl (V_move rfl) ?_
     first | refine dq rfl viS1 ?_ | refine dq rfl viS1Z ?_
     refine dq rfl (vldS _) ?_
     refine WD.l ?_
     refine dcg rfl rfl (fun w hp => chk16_calls s _ hc hcb ht htb b18 5 rl r.1 r.2 w rat (hh hp) hgr hl hrb (by omega)) (fun b43 h43 => ?_)
     refine WD.l ?_
     refine dcp rfl rfl (fun w hp => rchk16_calls rl 5 s _ hl hrb (by omega) hc hcb ht w) ?_
     refine dq rfl (v2 V_neq) ?_
     refine WD.done ?_
     refine WQ.then ?_
     refine W.cond_false rfl (by simp) ?_
     refine W.skip ?_
     refine WQ.block_normal ?_
     refine WQ.then ?_
     refine W.region ?_
     refine omv ?_
     first | refine ov vaddN ?_ | refine ov vadd ?_
     refine oas ?_
     refine WL.nil ?_
     exact ag (i + 1, b43) [10, 0, 1, 2, 3, 4, 6, 7, 8, 9, 26] (by (try dsimp only); exact ⟨⟨by omega, by omega⟩, h43⟩) (by (try dsimp only); omega) rfl cov
   · refine W.exit ?_
     refine WQ.then_exit ?_
     refine WQ.then_exit ?_
     refine WQ.block_hit ?_
     refine WQ.then ?_
     refine sr ?_
     refine ov (vlda 68) ?_
     refine cgG rfl (fun w hp => sbytes_calls s hc hcb ht htb w) (fun o54 h54 => ?_)
     refine omv ?_
     refine ov vex ?_
     refine ov vex ?_
     refine oas ?_
     refine oas ?_
     refine nx ?_
     refine ov (vlda 68) ?_
     refine cgG rfl (fun w hp => rsbytes_calls s hc hcb ht htb w) (fun o59 h59 => ?_)
     refine omv ?_
     refine ov vex ?_
     refine ov vex ?_
     refine oas ?_
     refine oas ?_
     refine nx ?_
     refine omv ?_
     refine omv ?_
     refine oy rfl rfl ?_
     refine omv ?_
     refine oy rfl rfl ?_
     refine ov vbs ?_
     refine oy rfl rfl ?_
     refine omv ?_
     refine oy rfl rfl ?_
     refine ov vbs ?_
     refine oy rfl rfl ?_
     refine ov veqS ?_
     refine ov (V_pick_t rfl rfl rfl) ?_
     refine omv ?_
     refine oy rfl (by first | (simp; done) | (simp [*]; done) | (split <;> simp_all; done) | simp_all) ?_
     refine omv ?_
     refine oy rfl (by first | (simp; done) | (simp [*]; done) | (split <;> simp_all; done) | simp_all) ?_
     refine omv ?_
     refine oy rfl (by first | (simp; done) | (simp [*]; done) | (split <;> simp_all; done) | simp_all) ?_
     refine ov (v2 V_eql) ?_
     refine ov (V_pick_t rfl (by first | (simp; done) | (simp [*]; done) | (split <;> simp_all; done) | simp_all) rfl) ?_
     refine oas ?_
     refine nq ?_
     refine W.ret ?_
     refine WQ.ret1 Try.results13 (.tmp rfl) ?_
     intro w' hp; exact ⟨by first | rfl | (simp; done) | (simp [*]; done) | simp_all, hp.forget⟩
 · refine on rfl (decide_eq_false g1) ?_
   refine on rfl (decide_eq_false g1) ?_
   refine ov (V_pick_fd rfl g1 rfl) ?_
   refine nq ?_
   refine W.cond_false rfl rfl ?_
   refine W.exit ?_
   refine WQ.then_exit ?_
   refine WQ.then_exit ?_
   refine WQ.block_hit ?_
   refine WQ.then ?_
   refine sr ?_
   refine ov (vlda 68) ?_
   refine cgG rfl (fun w hp => sbytes_calls s hc hcb ht htb w) (fun o54 h54 => ?_)
   refine omv ?_
   refine ov vex ?_
   refine ov vex ?_
   refine oas ?_
   refine oas ?_
   refine nx ?_
   refine ov (vlda 68) ?_
   refine cgG rfl (fun w hp => rsbytes_calls s hc hcb ht htb w) (fun o59 h59 => ?_)
   refine omv ?_
   refine ov vex ?_
   refine ov vex ?_
   refine oas ?_
   refine oas ?_
   refine nx ?_
   refine omv ?_
   refine omv ?_
   refine oy rfl rfl ?_
   refine omv ?_
   refine oy rfl rfl ?_
   refine ov vbs ?_
   refine oy rfl rfl ?_
   refine omv ?_
   refine oy rfl rfl ?_
   refine ov vbs ?_
   refine oy rfl rfl ?_
   refine ov veqS ?_
   refine ov (V_pick_t rfl rfl rfl) ?_
   refine omv ?_
   refine oy rfl (by first | (simp; done) | (simp [*]; done) | (split <;> simp_all; done) | simp_all) ?_
   refine omv ?_
   refine oy rfl (by first | (simp; done) | (simp [*]; done) | (split <;> simp_all; done) | simp_all) ?_
   refine omv ?_
   refine oy rfl (by first | (simp; done) | (simp [*]; done) | (split <;> simp_all; done) | simp_all) ?_
   refine ov (v2 V_eql) ?_
   refine ov (V_pick_t rfl (by first | (simp; done) | (simp [*]; done) | (split <;> simp_all; done) | simp_all) rfl) ?_
   refine oas ?_
   refine nq ?_
   refine W.ret ?_
   refine WQ.ret1 Try.results13 (.tmp rfl) ?_
   intro w' hp; exact ⟨by first | rfl | (simp; done) | (simp [*]; done) | simp_all, hp.forget⟩

theorem stampEpochs_calls (rl : List Int) (hl : rl.length = 32) (hrb : bytes rl) (e : EnvS) (hc : e.commit.length = 32) (hcb : bytes e.commit) (hpl : e.pub.length = 32) (xl : List Int) (hx : xl.length = 2) (w : World) :
    Calls Try.prog 14 [AG [(32, iv .u8 rl)], AG (enV e), AG [(2, iv .i64 xl)]].toArray w fun e' w' => e' = .returned (.bool true) ∧ HP w w' [] [] := by
 have hsc : ∀ r t n, (stampF r t e n).commit.length = 32 := fun _ _ _ => stampF_clen hc
 have hst : ∀ r t n, mayB e n = true → (stampF r t e n).time = n := fun _ _ _ h => by rw [stampF_t h]
 have hsb : ∀ r t n, bytes (stampF r t e n).commit := fun _ _ _ => stampF_cb hcb
 unfold enV
 refine calls_of_W Try.func14 rfl Try.ntmps14 rfl rfl (HP.refl w []) ?_
 refine sr ?_
 refine obxa (fun b3 => ?_)
 refine obxa (fun b4 => ?_)
 refine obxa (fun b5 => ?_)
 refine oas ?_
 refine nx ?_
 refine cp rfl (fun w hp => awake16_calls w) ?_
 refine oas ?_
 refine nq ?_
 refine W.seq ?_
 refine sr ?_
 refine ov (viA0 (j := 0) 2) ?_
 first | refine ov vldI ?_ | refine ov vld ?_
 refine ov (v2 V_lss) ?_
 refine omv ?_
 refine WL.splitD rfl (fun g1 => ?_) (fun g1 => ?_)
 · refine on rfl (decide_eq_true g1) ?_
   refine on rfl (decide_eq_true g1) ?_
   refine on rfl (decide_eq_true g1) ?_
   refine ov (V_pick_td rfl g1 rfl) ?_
   refine omv ?_
   refine on rfl rfl ?_
   refine on rfl rfl ?_
   refine on rfl rfl ?_
   refine ov (V_pick_t rfl rfl rfl) ?_
   refine omv ?_
   refine on rfl rfl ?_
   refine on rfl rfl ?_
   refine on rfl rfl ?_
   refine ov (V_pick_t rfl rfl rfl) ?_
   refine omv ?_
   refine on rfl rfl ?_
   refine on rfl rfl ?_
   refine on rfl rfl ?_
   refine ov (V_pick_t rfl rfl rfl) ?_
   refine omv ?_
   refine on rfl rfl ?_
   refine on rfl rfl ?_
   refine on rfl rfl ?_
   refine ov (V_pick_t rfl rfl rfl) ?_
   refine omv ?_
   refine on rfl rfl ?_
   refine on rfl rfl ?_
   refine on rfl rfl ?_
   refine ov (V_pick_t rfl rfl rfl) ?_
   refine omv ?_
   refine on rfl rfl ?_
   refine on rfl rfl ?_
   refine on rfl rfl ?_
   refine ov (V_pick_t rfl rfl rfl) ?_
   refine nq ?_
   refine W.cond_true rfl rfl ?_
   refine sr ?_
   refine omv ?_
   refine oas ?_
   refine nq ?_
   refine W.ret ?_
   refine WQ.then_ret ?_
   refine WQ.ret1 Try.results14 (.tmp rfl) ?_
   intro w' hp; exact ⟨by first | rfl | (simp; done) | (simp [*]; done) | simp_all, hp.forget⟩
 · refine oy rfl (decide_eq_false g1) ?_
   refine ov (viA0 (j := 0) 2) ?_
   refine oy rfl (decide_eq_false g1) ?_
   first | refine ov vldI ?_ | refine ov vld ?_
   refine oy rfl (decide_eq_false g1) ?_
   refine ov (v2 V_gtr) ?_
   refine ov (V_pick_fd rfl g1 rfl) ?_
   refine omv ?_
   refine WL.splitD rfl (fun g2 => ?_) (fun g2 => ?_)
   · refine on rfl (decide_eq_true g2) ?_
     refine on rfl (decide_eq_true g2) ?_
     refine on rfl (decide_eq_true g2) ?_
     refine ov (V_pick_td rfl g2 rfl) ?_
     refine omv ?_
     refine on rfl rfl ?_
     refine on rfl rfl ?_
     refine on rfl rfl ?_
     refine ov (V_pick_t rfl rfl rfl) ?_
     refine omv ?_
     refine on rfl rfl ?_
     refine on rfl rfl ?_
     refine on rfl rfl ?_
     refine ov (V_pick_t rfl rfl rfl) ?_
     refine omv ?_
     refine on rfl rfl ?_
     refine on rfl rfl ?_
     refine on rfl rfl ?_
     refine ov (V_pick_t rfl rfl rfl) ?_
     refine omv ?_
     refine on rfl rfl ?_
     refine on rfl rfl ?_
     refine on rfl rfl ?_
     refine ov (V_pick_t rfl rfl rfl) ?_
     refine omv ?_
     refine on rfl rfl ?_
     refine on rfl rfl ?_
     refine on rfl rfl ?_
     refine ov (V_pick_t rfl rfl rfl) ?_
     refine nq ?_
     refine W.cond_true rfl rfl ?_
     refine sr ?_
     refine omv ?_
     refine oas ?_
     refine nq ?_
     refine W.ret ?_
     refine WQ.then_ret ?_
     refine WQ.ret1 Try.results14 (.tmp rfl) ?_
     intro w' hp; exact ⟨by first | rfl | (simp; done) | (simp [*]; done) | simp_all, hp.forget⟩
   · refine oy rfl (decide_eq_false g2) ?_
     refine ov (viA0 (j := 1) 2) ?_
     refine oy rfl (decide_eq_false g2) ?_
     first | refine ov vldI ?_ | refine ov vld ?_
     refine oy rfl (decide_eq_false g2) ?_
     refine ov (v2 V_lss) ?_
     refine ov (V_pick_fd rfl g2 rfl) ?_
     refine omv ?_
     refine WL.splitD rfl (fun g3 => ?_) (fun g3 => ?_)
     · refine on rfl (decide_eq_true g3) ?_
       refine on rfl (decide_eq_true g3) ?_
       refine on rfl (decide_eq_true g3) ?_
       refine ov (V_pick_td rfl g3 rfl) ?_
       refine omv ?_
       refine on rfl rfl ?_
       refine on rfl rfl ?_
       refine on rfl rfl ?_
       refine ov (V_pick_t rfl rfl rfl) ?_
       refine omv ?_
       refine on rfl rfl ?_
       refine on rfl rfl ?_
       refine on rfl rfl ?_
       refine ov (V_pick_t rfl rfl rfl) ?_
       refine omv ?_
       refine on rfl rfl ?_
       refine on rfl rfl ?_
       refine on rfl rfl ?_
       refine ov (V_pick_t rfl rfl rfl) ?_
       refine omv ?_
       refine on rfl rfl ?_
       refine on rfl rfl ?_
       refine on rfl rfl ?_
       refine ov (V_pick_t rfl rfl rfl) ?_
       refine nq ?_
       refine W.cond_true rfl rfl ?_
       refine sr ?_
       refine omv ?_
       refine oas ?_
       refine nq ?_
       refine W.ret ?_
       refine WQ.then_ret ?_
       refine WQ.ret1 Try.results14 (.tmp rfl) ?_
       intro w' hp; exact ⟨by first | rfl | (simp; done) | (simp [*]; done) | simp_all, hp.forget⟩
     · refine oy rfl (decide_eq_false g3) ?_
       refine ov (viA0 (j := 1) 2) ?_
       refine oy rfl (decide_eq_false g3) ?_
       first | refine ov vldI ?_ | refine ov vld ?_
       refine oy rfl (decide_eq_false g3) ?_
       refine ov (v2 V_gtr) ?_
       refine ov (V_pick_fd rfl g3 rfl) ?_
       refine omv ?_
       refine WL.splitD rfl (fun g4 => ?_) (fun g4 => ?_)
       · refine on rfl (decide_eq_true g4) ?_
         refine on rfl (decide_eq_true g4) ?_
         refine on rfl (decide_eq_true g4) ?_
         refine ov (V_pick_td rfl g4 rfl) ?_
         refine omv ?_
         refine on rfl rfl ?_
         refine on rfl rfl ?_
         refine on rfl rfl ?_
         refine ov (V_pick_t rfl rfl rfl) ?_
         refine omv ?_
         refine on rfl rfl ?_
         refine on rfl rfl ?_
         refine on rfl rfl ?_
         refine ov (V_pick_t rfl rfl rfl) ?_
         refine omv ?_
         refine on rfl rfl ?_
         refine on rfl rfl ?_
         refine on rfl rfl ?_
         refine ov (V_pick_t rfl rfl rfl) ?_
         refine nq ?_
         refine W.cond_true rfl rfl ?_
         refine sr ?_
         refine omv ?_
         refine oas ?_
         refine nq ?_
         refine W.ret ?_
         refine WQ.then_ret ?_
         refine WQ.ret1 Try.results14 (.tmp rfl) ?_
         intro w' hp; exact ⟨by first | rfl | (simp; done) | (simp [*]; done) | simp_all, hp.forget⟩
       · refine oy rfl (decide_eq_false g4) ?_
         refine ov (vfa0 0 1) ?_
         refine oy rfl (decide_eq_false g4) ?_
         refine ov vld ?_
         refine oy rfl (decide_eq_false g4) ?_
         refine ov (v2 V_lss) ?_
         refine ov (V_pick_fd rfl g4 rfl) ?_
         refine omv ?_
         refine WL.splitD rfl (fun g5 => ?_) (fun g5 => ?_)
         · refine on rfl (decide_eq_true g5) ?_
           refine on rfl (decide_eq_true g5) ?_
           refine on rfl (decide_eq_true g5) ?_
           refine ov (V_pick_td rfl g5 rfl) ?_
           refine omv ?_
           refine on rfl rfl ?_
           refine on rfl rfl ?_
           refine on rfl rfl ?_
           refine ov (V_pick_t rfl rfl rfl) ?_
           refine omv ?_
           refine on rfl rfl ?_
           refine on rfl rfl ?_
           refine on rfl rfl ?_
           refine ov (V_pick_t rfl rfl rfl) ?_
           refine nq ?_
           refine W.cond_true rfl rfl ?_
           refine sr ?_
           refine omv ?_
           refine oas ?_
           refine nq ?_
           refine W.ret ?_
           refine WQ.then_ret ?_
           refine WQ.ret1 Try.results14 (.tmp rfl) ?_
           intro w' hp; exact ⟨by first | rfl | (simp; done) | (simp [*]; done) | simp_all, hp.forget⟩
         · refine oy rfl (decide_eq_false g5) ?_
           refine ov (vfa0 0 1) ?_
           refine oy rfl (decide_eq_false g5) ?_
           refine ov vld ?_
           refine oy rfl (decide_eq_false g5) ?_
           refine ov (v2 V_gtr) ?_
           refine ov (V_pick_fd rfl g5 rfl) ?_
           refine omv ?_
           refine WL.splitD rfl (fun g6 => ?_) (fun g6 => ?_)
           · refine on rfl (decide_eq_true g6) ?_
             refine on rfl (decide_eq_true g6) ?_
             refine on rfl (decide_eq_true g6) ?_
             refine ov (V_pick_td rfl g6 rfl) ?_
             refine omv ?_
             refine on rfl rfl ?_
             refine on rfl rfl ?_
             refine on rfl rfl ?_
             refine ov (V_pick_t rfl rfl rfl) ?_
             refine nq ?_
             refine W.cond_true rfl rfl ?_
             refine sr ?_
             refine omv ?_
             refine oas ?_
             refine nq ?_
             refine W.ret ?_
             refine WQ.then_ret ?_
             refine WQ.ret1 Try.results14 (.tmp rfl) ?_
             intro w' hp; exact ⟨by first | rfl | (simp; done) | (simp [*]; done) | simp_all, hp.forget⟩
           · refine oy rfl (decide_eq_false g6) ?_
             refine ov (vfa0 1 1) ?_
             refine oy rfl (decide_eq_false g6) ?_
             refine ov vld ?_
             refine oy rfl (decide_eq_false g6) ?_
             refine ov (v2 V_lss) ?_
             refine ov (V_pick_fd rfl g6 rfl) ?_
             refine omv ?_
             refine WL.splitD rfl (fun g7 => ?_) (fun g7 => ?_)
             · refine on rfl (decide_eq_true g7) ?_
               refine on rfl (decide_eq_true g7) ?_
               refine on rfl (decide_eq_true g7) ?_
               refine ov (V_pick_td rfl g7 rfl) ?_
               refine nq ?_
               refine W.cond_true rfl rfl ?_
               refine sr ?_
               refine omv ?_
               refine oas ?_
               refine nq ?_
               refine W.ret ?_
               refine WQ.then_ret ?_
               refine WQ.ret1 Try.results14 (.tmp rfl) ?_
               intro w' hp; exact ⟨by first | rfl | (simp; done) | (simp [*]; done) | simp_all, hp.forget⟩
             · refine oy rfl (decide_eq_false g7) ?_
               refine ov (vfa0 1 1) ?_
               refine oy rfl (decide_eq_false g7) ?_
               refine ov vld ?_
               refine oy rfl (decide_eq_false g7) ?_
               refine ov (v2 V_gtr) ?_
               refine ov (V_pick_fd rfl g7 rfl) ?_
               refine nq ?_
               refine W.cond_dec rfl (fun g8 => ?_) (fun g8 => ?_)
               · refine W.seq ?_
                 refine W.region ?_
                 refine omv ?_
                 refine oas ?_
                 refine nq ?_
                 refine W.ret ?_
                 refine WQ.then_ret ?_
                 refine WQ.ret1 Try.results14 (.tmp rfl) ?_
                 intro w' hp; exact ⟨by first | rfl | (simp; done) | (simp [*]; done) | simp_all, hp.forget⟩
               · refine W.skip ?_
                 refine WQ.then ?_
                 refine W.seq ?_
                 have hq : 1 ≤ xl.getD 0 0 ∧ xl.getD 0 0 ≤ 1000000 := by omega
                 have hm : mayB e (xl.getD 1 0) = true := by simp only [mayB, timeB, acB, Bool.and_eq_true, decide_eq_true_eq]; omega
                 have hri := stamp_right (root := rl) hm hq.1
                 refine W.region ?_
                 refine ov (vlda 32) ?_
                 refine ov (viA0 (j := 0) 2) ?_
                 first | refine ov vldI ?_ | refine ov vld ?_
                 refine cg rfl (fun w hp => new16_calls rl (xl.getD 0 0) hl hq w) (fun b62 h62 => ?_)
                 refine omv ?_
                 refine ov vex ?_
                 refine ov vex ?_
                 refine oas ?_
                 refine oas ?_
                 refine nx ?_
                 refine ov (vlda 32) ?_
                 refine ov (viA0 (j := 0) 2) ?_
                 first | refine ov vldI ?_ | refine ov vld ?_
                 refine cg rfl (fun w hp => new16_calls rl (xl.getD 0 0) hl hq w) (fun b69 h69 => ?_)
                 refine omv ?_
                 refine ov vex ?_
                 refine ov vex ?_
                 refine oas ?_
                 refine oas ?_
                 refine nq ?_
                 refine W.seq ?_
                 refine sr ?_
                 refine omv ?_
                 refine ov (V_eqlP (by kernel_rfl) rfl rfl) ?_
                 refine omv ?_
                 refine oy rfl rfl ?_
                 refine omv ?_
                 refine oy rfl rfl ?_
                 refine ov (V_eqlP (by kernel_rfl) rfl rfl) ?_
                 refine ov (V_pick_f rfl rfl rfl) ?_
                 refine omv ?_
                 refine oy rfl rfl ?_
                 refine omv ?_
                 refine oy rfl rfl ?_
                 refine ov (v2 V_neq) ?_
                 refine ov (V_pick_f rfl rfl rfl) ?_
                 refine omv ?_
                 refine oy rfl (by decide) ?_
                 refine omv ?_
                 refine oy rfl (by decide) ?_
                 refine ov (v2 V_neq) ?_
                 refine ov (V_pick_f rfl (by decide) rfl) ?_
                 refine nq ?_
                 refine W.cond_false rfl (by decide) ?_
                 refine W.skip ?_
                 refine WQ.then ?_
                 refine sr ?_
                 refine omv ?_
                 refine ov (vlda 69) ?_
                 refine ov (viA0 (j := 1) 2) ?_
                 first | refine ov vldI ?_ | refine ov vld ?_
                 refine cg rfl (fun w hp => stamp_calls e (xl.getD 1 0) hc hcb hpl b62 (xl.getD 0 0) rl [] 0 w rat (hh hp) Good.nil hl hrb hq.1) (fun b91 h91 => ?_)
                 refine omv ?_
                 refine ov vex ?_
                 refine ov vex ?_
                 unfold stV
                 refine oal [(1, [.int .i64 0]), (1, [.int .i64 0]), (1, [.int .i64 0]), (1, [.int .i64 0]), (32, List.replicate 32 (.int .u8 0)), (32, List.replicate 32 (.int .u8 0))] (fun b12 => ?_)
                 refine osta 68 ?_
                 refine oas ?_
                 refine nx ?_
                 refine omv ?_
                 refine ov (vlda 69) ?_
                 refine ov (viA0 (j := 1) 2) ?_
                 first | refine ov vldI ?_ | refine ov vld ?_
                 refine cg rfl (fun w hp => stamp_calls e (xl.getD 1 0) hc hcb hpl b69 (xl.getD 0 0) rl [] 0 w rat (hh hp) Good.nil hl hrb hq.1) (fun b99 h99 => ?_)
                 refine omv ?_
                 refine ov vex ?_
                 refine ov vex ?_
                 unfold stV
                 refine oal [(1, [.int .i64 0]), (1, [.int .i64 0]), (1, [.int .i64 0]), (1, [.int .i64 0]), (32, List.replicate 32 (.int .u8 0)), (32, List.replicate 32 (.int .u8 0))] (fun b14 => ?_)
                 refine osta 68 ?_
                 refine oas ?_
                 refine nx ?_
                 refine ov (vlda 68) ?_
                 refine cgG rfl (fun w hp => sbytes_calls (stampF rl (xl.getD 0 0) e (xl.getD 1 0)) (hsc _ _ _) (hsb _ _ _) stampF_tlen stampF_tb w) (fun o104 h104 => ?_)
                 refine omv ?_
                 refine ov vex ?_
                 refine ov vex ?_
                 refine oas ?_
                 refine oas ?_
                 refine nq ?_
                 refine W.seq ?_
                 have hbn := bN_t hri
                 refine dr (.q 0 (.q 1 (.q 2 (.q 3 (.q 4 (.q 5 (.q 6 (.q 7 (.q 8 (.q 9 (.q 10 (.q 11 (.q 12 (.q 13 (.q 14 (.q 15 (.q 16 (.q 17 (.q 18 (.q 19 (.q 20 (.q 21 (.q 22 (.q 23 (.q 24 (.q 25 (.q 26 (.q 27 (.q 28 (.l 29 (.q 30 (.q 31 (.q 32 (.q 33 (.q 34 (.q 35 (.q 36 (.q 37 (.q 38 (.q 39 (.q 40 (.q 41 (.done))))))))))))))))))))))))))))))))))))))))))) [(b14, _), (b12, _), (b5, _)] ?_
                 refine dq rfl (V_move rfl) ?_
                 refine dq rfl (V_move rfl) ?_
                 refine dy rfl rfl rfl (V_move rfl) ?_
                 refine dy rfl rfl rfl (v2 V_eql) ?_
                 refine dq rfl (V_pick_t rfl rfl rfl) ?_
                 refine dq rfl (V_move rfl) ?_
                 refine dy rfl rfl (by rw [if_pos hm]; rfl) (V_move rfl) ?_
                 refine dy rfl rfl (by rw [if_pos hm]; rfl) (v2 V_eql) ?_
                 refine dq rfl (V_pick_t rfl (by rw [if_pos hm]; rfl) rfl) ?_
                 refine dq rfl (V_move rfl) ?_
                 refine dy rfl rfl (by rw [if_pos hm]; rfl) (vlda 68) ?_
                 refine dy rfl rfl (by rw [if_pos hm]; rfl) (vlda 68) ?_
                 refine dy rfl rfl (by rw [if_pos hm]; rfl) (veqA [(1, 5), (1, 5), (1, 5), (1, 5), (32, 6), (32, 6)]) ?_
                 refine dq rfl (V_pick_t rfl (by rw [if_pos hm]; rfl) rfl) ?_
                 refine dq rfl (V_move rfl) ?_
                 refine dy rfl rfl (by first | (simp; done) | (simp [*]; done) | (split <;> simp_all; done) | simp_all) (vfa0 0 1) ?_
                 refine dy rfl rfl (by first | (simp; done) | (simp [*]; done) | (split <;> simp_all; done) | simp_all) vld ?_
                 refine dy rfl rfl (by first | (simp; done) | (simp [*]; done) | (split <;> simp_all; done) | simp_all) (viA0 (j := 1) 2) ?_
                 first | refine dy rfl rfl (by first | (simp; done) | (simp [*]; done) | (split <;> simp_all; done) | simp_all) vldI ?_ | refine dy rfl rfl (by first | (simp; done) | (simp [*]; done) | (split <;> simp_all; done) | simp_all) vld ?_
                 refine dy rfl rfl (by first | (simp; done) | (simp [*]; done) | (split <;> simp_all; done) | simp_all) (viA0 (j := 0) 2) ?_
                 first | refine dy rfl rfl (by first | (simp; done) | (simp [*]; done) | (split <;> simp_all; done) | simp_all) vldI ?_ | refine dy rfl rfl (by first | (simp; done) | (simp [*]; done) | (split <;> simp_all; done) | simp_all) vld ?_
                 first | refine dy rfl rfl (by first | (simp; done) | (simp [*]; done) | (split <;> simp_all; done) | simp_all) vquo ?_ | refine dy rfl rfl (by first | (simp; done) | (simp [*]; done) | (split <;> simp_all; done) | simp_all) (V_quo rfl rfl (by omega)) ?_
                 refine dy rfl rfl (by first | (simp; done) | (simp [*]; done) | (split <;> simp_all; done) | simp_all) (v2 V_eql) ?_
                 refine dq rfl (V_pick_t rfl (by first | (simp; done) | (simp [*]; done) | (split <;> simp_all; done) | simp_all) rfl) ?_
                 refine dq rfl (V_move rfl) ?_
                 refine dy rfl rfl (decide_eq_true (by rw [stampF_t hm])) (V_move rfl) ?_
                 refine dy rfl rfl (decide_eq_true (by rw [stampF_t hm])) (vlda 68) ?_
                 refine dy rfl rfl (decide_eq_true (by rw [stampF_t hm])) (viA0 (j := 1) 2) ?_
                 first | refine dy rfl rfl (decide_eq_true (by rw [stampF_t hm])) vldI ?_ | refine dy rfl rfl (decide_eq_true (by rw [stampF_t hm])) vld ?_
                 refine WD.l ?_
                 refine dcg rfl rfl (fun w hp => chk16_calls (stampF rl (xl.getD 0 0) e (xl.getD 1 0)) (xl.getD 1 0) (hsc _ _ _) (hsb _ _ _) stampF_tlen stampF_tb b69 (xl.getD 0 0) rl b99.1 b99.2 w rat (hh hp) h99 hl hrb hq.1) (fun b136 h136 => ?_) (hg := gy rfl (decide_eq_true (by rw [stampF_t hm])))
                 refine dy rfl rfl (decide_eq_true (by rw [stampF_t hm])) (v2 V_eql) ?_
                 refine dq rfl (V_pick_t rfl (decide_eq_true (by rw [stampF_t hm])) rfl) ?_
                 refine dq rfl (V_move rfl) ?_
                 refine dy rfl rfl (decide_eq_true (by rw [check_stamp hm hq.1 (by simp only [timeB, Bool.and_eq_true, decide_eq_true_eq]; omega)]; exact if_neg (by omega))) (V_move rfl) ?_
                 refine dy rfl rfl (decide_eq_true (by rw [check_stamp hm hq.1 (by simp only [timeB, Bool.and_eq_true, decide_eq_true_eq]; omega)]; exact if_neg (by omega))) (v2 V_eql) ?_
                 refine dq rfl (V_pick_t rfl (decide_eq_true (by rw [check_stamp hm hq.1 (by simp only [timeB, Bool.and_eq_true, decide_eq_true_eq]; omega)]; exact if_neg (by omega))) rfl) ?_
                 refine dq rfl (V_move rfl) ?_
                 refine dy rfl rfl (by rw [hri]; rfl) (V_move rfl) ?_
                 refine dy rfl rfl (by rw [hri]; rfl) vlenS ?_
                 refine dy rfl rfl (by rw [hri]; rfl) (v2 V_eql) ?_
                 refine dq rfl (V_pick_t rfl (by rw [hri]; rfl) rfl) ?_
                 refine dq rfl (V_assign rfl) ?_
                 refine WD.done ?_
                 refine WQ.then ?_
                 refine W.ret ?_
                 refine WQ.ret1 Try.results14 (.tmp rfl) ?_
                 intro w' hp; exact ⟨by first | rfl | (simp; done) | (simp [*]; done) | simp_all, hp.forget⟩

theorem stampReads_calls (s : StampS) (hc : s.commit.length = 32) (hcb : bytes s.commit) (ht : s.tag.length = 32) (htb : bytes s.tag) (A : Option Addr) (n cap : Nat) (l : List Int) (w : World) (hs : SrW w 1 A n (iv .u8 l)) (hb : bytes l) (hn : n ≤ cap) :
    Calls Try.prog 15 [AG (stV s), .slice A n cap].toArray w fun e' w' => e' = .returned (.bool true) ∧ HP w w' [] [] := by
 have hl := SrW.ilen hs
 have hfl := bF_len hc ht
 have hfb := bF_bytes hcb htb
 have hfn := bN_le (s := s)
 have hrl := bF_len (readF_c (l := l)) readF_t
 have hrb := bF_bytes (readF_cb hb) (readF_tb hb)
 have hrn := bN_le (s := readF l)
 unfold stV
 refine calls_of_W Try.func15 rfl Try.ntmps15 rfl rfl (HP.refl w []) ?_
 refine sr ?_
 refine obxa (fun b2 => ?_)
 refine oas ?_
 refine nx ?_
 refine cp rfl (fun w hp => awake16_calls w) ?_
 refine oas ?_
 refine nq ?_
 refine W.seq ?_
 refine sr ?_
 refine omv ?_
 refine ov vlenS ?_
 refine ov (v2 V_gtr) ?_
 refine nq ?_
 refine W.cond_dec rfl (fun g1 => ?_) (fun g1 => ?_)
 · refine W.seq ?_
   refine W.region ?_
   refine omv ?_
   refine oas ?_
   refine nq ?_
   refine W.ret ?_
   refine WQ.then_ret ?_
   refine WQ.ret1 Try.results15 (.tmp rfl) ?_
   intro w' hp; exact ⟨by first | rfl | (simp; done) | (simp [*]; done) | simp_all, hp.forget⟩
 · refine W.skip ?_
   refine WQ.then ?_
   refine sr ?_
   refine omv ?_
   refine cp rfl (fun w hp => sread_calls _ _ _ l w sw hb hn (by omega)) ?_
   refine omv ?_
   refine ov vex ?_
   refine ov vex ?_
   unfold stV
   refine oal [(1, [.int .i64 0]), (1, [.int .i64 0]), (1, [.int .i64 0]), (1, [.int .i64 0]), (32, List.replicate 32 (.int .u8 0)), (32, List.replicate 32 (.int .u8 0))] (fun b6 => ?_)
   refine osta 68 ?_
   refine oas ?_
   refine nx ?_
   refine omv ?_
   refine cp rfl (fun w hp => rread_calls _ _ _ l w sw hb (by omega) hn) ?_
   refine omv ?_
   refine ov vex ?_
   refine ov vex ?_
   unfold stV
   refine oal [(1, [.int .i64 0]), (1, [.int .i64 0]), (1, [.int .i64 0]), (1, [.int .i64 0]), (32, List.replicate 32 (.int .u8 0)), (32, List.replicate 32 (.int .u8 0))] (fun b8 => ?_)
   refine osta 68 ?_
   refine oas ?_
   refine nx ?_
   refine ov (vlda 68) ?_
   refine cgG rfl (fun w hp => sbytes_calls s hc hcb ht htb w) (fun o33 h33 => ?_)
   refine omv ?_
   refine ov vex ?_
   refine ov vex ?_
   refine oas ?_
   refine oas ?_
   refine nx ?_
   refine omv ?_
   refine cp rfl (fun w hp => sread_calls _ _ _ (bF s) w sw hfb sc (by omega)) ?_
   refine omv ?_
   refine ov vex ?_
   refine ov vex ?_
   unfold stV
   refine oal [(1, [.int .i64 0]), (1, [.int .i64 0]), (1, [.int .i64 0]), (1, [.int .i64 0]), (32, List.replicate 32 (.int .u8 0)), (32, List.replicate 32 (.int .u8 0))] (fun b12 => ?_)
   refine osta 68 ?_
   refine oas ?_
   refine nq ?_
   refine W.seq ?_
   refine W.seq ?_
   by_cases hri : rightB s = true
   · refine W.region ?_
     refine omv ?_
     refine ov (v2 V_eql) ?_
     refine omv ?_
     refine oy rfl (by rw [if_pos hri]; rfl) ?_
     refine omv ?_
     refine oy rfl (by rw [if_pos hri]; rfl) ?_
     refine ov (v2 V_neq) ?_
     refine oy rfl (by rw [if_pos hri]; rfl) ?_
     refine omv ?_
     refine oy rfl (decide_eq_false (by rw [bF_t hri, read_ok hri hc ht]; simp)) ?_
     refine ov (vlda 68) ?_
     refine oy rfl (decide_eq_false (by rw [bF_t hri, read_ok hri hc ht]; simp)) ?_
     refine ov (vlda 68) ?_
     refine oy rfl (decide_eq_false (by rw [bF_t hri, read_ok hri hc ht]; simp)) ?_
     refine ov (vneA [(1, 5), (1, 5), (1, 5), (1, 5), (32, 6), (32, 6)]) ?_
     refine oy rfl (by rw [if_pos hri]; rfl) ?_
     refine ov (V_pick_f rfl (decide_eq_false (by rw [bF_t hri, read_ok hri hc ht]; simp)) rfl) ?_
     refine ov (V_pick_t rfl (by rw [if_pos hri]; rfl) rfl) ?_
     refine nq ?_
     refine W.cond_false rfl (by rw [bF_t hri, readFg (read_ok hri hc ht), read_bytes hri hc ht]; simp) ?_
     refine W.skip ?_
     refine WQ.then ?_
     refine sr ?_
     refine ov (vlda 68) ?_
     refine cgG rfl (fun w hp => sbytes_calls (readF l) readF_c (readF_cb hb) readF_t (readF_tb hb) w) (fun o54 h54 => ?_)
     refine omv ?_
     refine ov vex ?_
     refine ov vex ?_
     refine oas ?_
     refine oas ?_
     refine nq ?_
     refine W.seq ?_
     by_cases hre : readE l = 0
     · have hbk : bF (readF l) = l := by rw [bF_t (read_back hb hre).1, (read_back hb hre).2]
       refine W.region ?_
       refine omv ?_
       refine omv ?_
       refine oy rfl rfl ?_
       refine ov (vlda 68) ?_
       refine oy rfl rfl ?_
       refine ov (vlda 68) ?_
       refine oy rfl rfl ?_
       refine ov (veqA [(1, 5), (1, 5), (1, 5), (1, 5), (32, 6), (32, 6)]) ?_
       refine ov (V_pick_t rfl rfl rfl) ?_
       refine omv ?_
       refine oy rfl (by first | (simp; done) | (simp [*]; done) | (split <;> simp_all; done) | simp_all) ?_
       refine omv ?_
       refine oy rfl (by first | (simp; done) | (simp [*]; done) | (split <;> simp_all; done) | simp_all) ?_
       refine omv ?_
       refine oy rfl (by first | (simp; done) | (simp [*]; done) | (split <;> simp_all; done) | simp_all) ?_
       refine ov (v2 V_eql) ?_
       refine ov (V_pick_t rfl (by first | (simp; done) | (simp [*]; done) | (split <;> simp_all; done) | simp_all) rfl) ?_
       refine omv ?_
       refine oy rfl (by first | (simp; done) | (simp [*]; done) | (split <;> simp_all; done) | simp_all) ?_
       refine omv ?_
       refine oy rfl (by first | (simp; done) | (simp [*]; done) | (split <;> simp_all; done) | simp_all) ?_
       refine ov (v2 V_neq) ?_
       refine oy rfl (by first | (simp; done) | (simp [*]; done) | (split <;> simp_all; done) | simp_all) ?_
       refine omv ?_
       refine oy rfl (decide_eq_false (by simpa using hre)) ?_
       refine omv ?_
       refine oy rfl (decide_eq_false (by simpa using hre)) ?_
       refine ov (v2 V_eql) ?_
       refine oy rfl (decide_eq_false (by simpa using hre)) ?_
       refine omv ?_
       refine oy rfl (decide_eq_true (by rw [(read_back hb hre).1]; rfl)) ?_
       refine omv ?_
       refine oy rfl (decide_eq_true (by rw [(read_back hb hre).1]; rfl)) ?_
       refine ov vbs ?_
       refine oy rfl (decide_eq_true (by rw [(read_back hb hre).1]; rfl)) ?_
       refine omv ?_
       refine oy rfl (decide_eq_true (by rw [(read_back hb hre).1]; rfl)) ?_
       refine ov vbs ?_
       refine oy rfl (decide_eq_true (by rw [(read_back hb hre).1]; rfl)) ?_
       refine ov veqS ?_
       refine oy rfl (decide_eq_false (by simpa using hre)) ?_
       refine ov (V_pick_t rfl (decide_eq_true (by rw [(read_back hb hre).1]; rfl)) rfl) ?_
       refine oy rfl (by first | (simp; done) | (simp [*]; done) | (split <;> simp_all; done) | simp_all) ?_
       refine ov (V_pick_f rfl (decide_eq_false (by simpa using hre)) rfl) ?_
       refine ov (V_pick_t rfl (by first | (simp; done) | (simp [*]; done) | (split <;> simp_all; done) | simp_all) rfl) ?_
       refine oas ?_
       refine nq ?_
       refine W.ret ?_
       refine WQ.ret1 Try.results15 (.tmp rfl) ?_
       intro w' hp; exact ⟨by first | rfl | (simp; done) | (simp [*]; done) | simp_all, hp.forget⟩
     · refine W.region ?_
       refine omv ?_
       refine omv ?_
       refine oy rfl rfl ?_
       refine ov (vlda 68) ?_
       refine oy rfl rfl ?_
       refine ov (vlda 68) ?_
       refine oy rfl rfl ?_
       refine ov (veqA [(1, 5), (1, 5), (1, 5), (1, 5), (32, 6), (32, 6)]) ?_
       refine ov (V_pick_t rfl rfl rfl) ?_
       refine omv ?_
       refine oy rfl (by first | (simp; done) | (simp [*]; done) | (split <;> simp_all; done) | simp_all) ?_
       refine omv ?_
       refine oy rfl (by first | (simp; done) | (simp [*]; done) | (split <;> simp_all; done) | simp_all) ?_
       refine omv ?_
       refine oy rfl (by first | (simp; done) | (simp [*]; done) | (split <;> simp_all; done) | simp_all) ?_
       refine ov (v2 V_eql) ?_
       refine ov (V_pick_t rfl (by first | (simp; done) | (simp [*]; done) | (split <;> simp_all; done) | simp_all) rfl) ?_
       refine omv ?_
       refine oy rfl (by first | (simp; done) | (simp [*]; done) | (split <;> simp_all; done) | simp_all) ?_
       refine omv ?_
       refine oy rfl (by first | (simp; done) | (simp [*]; done) | (split <;> simp_all; done) | simp_all) ?_
       refine ov (v2 V_neq) ?_
       refine oy rfl (by first | (simp; done) | (simp [*]; done) | (split <;> simp_all; done) | simp_all) ?_
       refine omv ?_
       refine on rfl (decide_eq_true (by simpa using hre)) ?_
       refine on rfl (decide_eq_true (by simpa using hre)) ?_
       refine on rfl (decide_eq_true (by simpa using hre)) ?_
       refine onu rfl ?_
       refine onu rfl ?_
       refine onu rfl ?_
       refine onu rfl ?_
       refine onu rfl ?_
       refine on rfl (decide_eq_true (by simpa using hre)) ?_
       refine oy rfl (by first | (simp; done) | (simp [*]; done) | (split <;> simp_all; done) | simp_all) ?_
       refine ov (V_pick_t rfl (decide_eq_true (by simpa using hre)) rfl) ?_
       refine ov (V_pick_t rfl (by first | (simp; done) | (simp [*]; done) | (split <;> simp_all; done) | simp_all) rfl) ?_
       refine oas ?_
       refine nq ?_
       refine W.ret ?_
       refine WQ.ret1 Try.results15 (.tmp rfl) ?_
       intro w' hp; exact ⟨by first | rfl | (simp; done) | (simp [*]; done) | simp_all, hp.forget⟩
   · refine W.region ?_
     refine omv ?_
     refine ov (v2 V_eql) ?_
     refine omv ?_
     refine on rfl (by rw [if_neg hri]; rfl) ?_
     refine on rfl (by rw [if_neg hri]; rfl) ?_
     refine on rfl (by rw [if_neg hri]; rfl) ?_
     refine onu rfl ?_
     refine onu rfl ?_
     refine onu rfl ?_
     refine on rfl (by rw [if_neg hri]; rfl) ?_
     refine ov (V_pick_f rfl (by rw [if_neg hri]; rfl) rfl) ?_
     refine nq ?_
     refine W.cond_false rfl rfl ?_
     refine W.skip ?_
     refine WQ.then ?_
     refine sr ?_
     refine ov (vlda 68) ?_
     refine cgG rfl (fun w hp => sbytes_calls (readF l) readF_c (readF_cb hb) readF_t (readF_tb hb) w) (fun o54 h54 => ?_)
     refine omv ?_
     refine ov vex ?_
     refine ov vex ?_
     refine oas ?_
     refine oas ?_
     refine nq ?_
     refine W.seq ?_
     by_cases hre : readE l = 0
     · have hbk : bF (readF l) = l := by rw [bF_t (read_back hb hre).1, (read_back hb hre).2]
       refine W.region ?_
       refine omv ?_
       refine omv ?_
       refine oy rfl rfl ?_
       refine ov (vlda 68) ?_
       refine oy rfl rfl ?_
       refine ov (vlda 68) ?_
       refine oy rfl rfl ?_
       refine ov (veqA [(1, 5), (1, 5), (1, 5), (1, 5), (32, 6), (32, 6)]) ?_
       refine ov (V_pick_t rfl rfl rfl) ?_
       refine omv ?_
       refine oy rfl (by first | (simp; done) | (simp [*]; done) | (split <;> simp_all; done) | simp_all) ?_
       refine omv ?_
       refine oy rfl (by first | (simp; done) | (simp [*]; done) | (split <;> simp_all; done) | simp_all) ?_
       refine omv ?_
       refine oy rfl (by first | (simp; done) | (simp [*]; done) | (split <;> simp_all; done) | simp_all) ?_
       refine ov (v2 V_eql) ?_
       refine ov (V_pick_t rfl (by first | (simp; done) | (simp [*]; done) | (split <;> simp_all; done) | simp_all) rfl) ?_
       refine omv ?_
       refine oy rfl (by first | (simp; done) | (simp [*]; done) | (split <;> simp_all; done) | simp_all) ?_
       refine omv ?_
       refine oy rfl (by first | (simp; done) | (simp [*]; done) | (split <;> simp_all; done) | simp_all) ?_
       refine ov (v2 V_neq) ?_
       refine oy rfl (by first | (simp; done) | (simp [*]; done) | (split <;> simp_all; done) | simp_all) ?_
       refine omv ?_
       refine oy rfl (decide_eq_false (by simpa using hre)) ?_
       refine omv ?_
       refine oy rfl (decide_eq_false (by simpa using hre)) ?_
       refine ov (v2 V_eql) ?_
       refine oy rfl (decide_eq_false (by simpa using hre)) ?_
       refine omv ?_
       refine oy rfl (decide_eq_true (by rw [(read_back hb hre).1]; rfl)) ?_
       refine omv ?_
       refine oy rfl (decide_eq_true (by rw [(read_back hb hre).1]; rfl)) ?_
       refine ov vbs ?_
       refine oy rfl (decide_eq_true (by rw [(read_back hb hre).1]; rfl)) ?_
       refine omv ?_
       refine oy rfl (decide_eq_true (by rw [(read_back hb hre).1]; rfl)) ?_
       refine ov vbs ?_
       refine oy rfl (decide_eq_true (by rw [(read_back hb hre).1]; rfl)) ?_
       refine ov veqS ?_
       refine oy rfl (decide_eq_false (by simpa using hre)) ?_
       refine ov (V_pick_t rfl (decide_eq_true (by rw [(read_back hb hre).1]; rfl)) rfl) ?_
       refine oy rfl (by first | (simp; done) | (simp [*]; done) | (split <;> simp_all; done) | simp_all) ?_
       refine ov (V_pick_f rfl (decide_eq_false (by simpa using hre)) rfl) ?_
       refine ov (V_pick_t rfl (by first | (simp; done) | (simp [*]; done) | (split <;> simp_all; done) | simp_all) rfl) ?_
       refine oas ?_
       refine nq ?_
       refine W.ret ?_
       refine WQ.ret1 Try.results15 (.tmp rfl) ?_
       intro w' hp; exact ⟨by first | rfl | (simp; done) | (simp [*]; done) | simp_all, hp.forget⟩
     · refine W.region ?_
       refine omv ?_
       refine omv ?_
       refine oy rfl rfl ?_
       refine ov (vlda 68) ?_
       refine oy rfl rfl ?_
       refine ov (vlda 68) ?_
       refine oy rfl rfl ?_
       refine ov (veqA [(1, 5), (1, 5), (1, 5), (1, 5), (32, 6), (32, 6)]) ?_
       refine ov (V_pick_t rfl rfl rfl) ?_
       refine omv ?_
       refine oy rfl (by first | (simp; done) | (simp [*]; done) | (split <;> simp_all; done) | simp_all) ?_
       refine omv ?_
       refine oy rfl (by first | (simp; done) | (simp [*]; done) | (split <;> simp_all; done) | simp_all) ?_
       refine omv ?_
       refine oy rfl (by first | (simp; done) | (simp [*]; done) | (split <;> simp_all; done) | simp_all) ?_
       refine ov (v2 V_eql) ?_
       refine ov (V_pick_t rfl (by first | (simp; done) | (simp [*]; done) | (split <;> simp_all; done) | simp_all) rfl) ?_
       refine omv ?_
       refine oy rfl (by first | (simp; done) | (simp [*]; done) | (split <;> simp_all; done) | simp_all) ?_
       refine omv ?_
       refine oy rfl (by first | (simp; done) | (simp [*]; done) | (split <;> simp_all; done) | simp_all) ?_
       refine ov (v2 V_neq) ?_
       refine oy rfl (by first | (simp; done) | (simp [*]; done) | (split <;> simp_all; done) | simp_all) ?_
       refine omv ?_
       refine on rfl (decide_eq_true (by simpa using hre)) ?_
       refine on rfl (decide_eq_true (by simpa using hre)) ?_
       refine on rfl (decide_eq_true (by simpa using hre)) ?_
       refine onu rfl ?_
       refine onu rfl ?_
       refine onu rfl ?_
       refine onu rfl ?_
       refine onu rfl ?_
       refine on rfl (decide_eq_true (by simpa using hre)) ?_
       refine oy rfl (by first | (simp; done) | (simp [*]; done) | (split <;> simp_all; done) | simp_all) ?_
       refine ov (V_pick_t rfl (decide_eq_true (by simpa using hre)) rfl) ?_
       refine ov (V_pick_t rfl (by first | (simp; done) | (simp [*]; done) | (split <;> simp_all; done) | simp_all) rfl) ?_
       refine oas ?_
       refine nq ?_
       refine W.ret ?_
       refine WQ.ret1 Try.results15 (.tmp rfl) ?_
       intro w' hp; exact ⟨by first | rfl | (simp; done) | (simp [*]; done) | simp_all, hp.forget⟩

theorem wfB16 {l : List Int} (h : ∀ c ∈ l, (Lit.int .u8 c).wf = true) : bytes l := fun c hc => wf_u8 (h c hc)
end Go.Proofs.Ytbalnjejamigaaa