/- The document's answer for octets: numbers' bytes, rows joined, light rows. -/
import Derived.Test.YtmeckbjinmgbbaaGreatJoin
set_option linter.unusedVariables false
set_option linter.unusedSimpArgs false

namespace Go.Proofs.YtmeckbjinmgbbaaGreat
open Go.X
theorem lowB_eq {n : Int} {i : Nat} (h0 : 0 ≤ n) (hi : i < 8) : lowB n i = IntKind.u8.wrap (n / 256 ^ i) := by
  unfold lowB shrI
  rw [show (8 * (i : Int)).toNat = 8 * i by omega, show min (8 * i) IntKind.u64.bits = 8 * i from Nat.min_eq_left (by show 8 * i ≤ 64; omega)]
  rw [Int.fdiv_eq_ediv_of_nonneg _ (by exact Int.le_of_lt (Int.pow_pos (by decide))), show (2 : Int) ^ (8 * i) = 256 ^ i by rw [Int.pow_mul]; rfl]
theorem highF_succ {n : Int} {i : Nat} : highF n (i + 1) = lowB n i :: highF n i := by
  simp [highF, lowF, List.range_succ]
theorem highStep {n x : Int} {i : Nat} (h0 : 0 ≤ n) (hi : i < 8) (hx : x = n / 256 ^ i) : [IntKind.u8.wrap x] ++ highF n i = highF n (i + 1) := by
  rw [highF_succ, lowB_eq h0 hi, hx]; rfl
theorem divStep {n x : Int} {i : Nat} (h0 : 0 ≤ n) (hx : x = n / 256 ^ i) : x / 256 = n / 256 ^ (i + 1) := by
  rw [hx, Int.pow_succ, Int.ediv_ediv_of_nonneg (Int.le_of_lt (Int.pow_pos (by decide)))]
theorem divBd {n : Int} {i : Nat} (h0 : 0 ≤ n) (h1 : n ≤ 18446744073709551615) : 0 ≤ n / 256 ^ i ∧ n / 256 ^ i ≤ 18446744073709551615 :=
  ⟨Int.ediv_nonneg h0 (Int.le_of_lt (Int.pow_pos (by decide))), Int.le_trans (Int.ediv_le_self _ h0) h1⟩

theorem rhigh_calls (n : Int) (k : Nat) (w : World) (hn : 0 ≤ n ∧ n ≤ 18446744073709551615) (hk : k ≤ 8) :
    Calls Tryz.prog 75 [.int .u64 n, .int .i64 k].toArray w fun e w' => ∃ o : Gr, GrOK o k ∧ e = .returned (.slice (gA o) k (gC o)) ∧ HP w w' [] (gL o k (iv .u8 (highF n k)) 5) := by
 refine calls_of_W Tryz.func75 rfl Tryz.ntmps75 rfl rfl (HP.refl w []) ?_
 refine sr ?_
 refine oas ?_
 refine nx ?_
 refine oas ?_
 refine nq ?_
 refine W.seq ?_
 refine sr ?_
 refine oas ?_
 refine nq ?_
 refine W.block ?_
 -- LOOP 0
 refine W.pick (S' := [(0, _), (5, _), (6, _), (1, _), (4, _)]) [0, 5, 6, 1, 4] rfl ?_
 refine W.loopG (σ := Nat × Int × Gr × Nat) (fun ⟨i, x, o, m⟩ => i ≤ k ∧ GrOK o m ∧ m = i ∧ x = n / 256 ^ i) (fun ⟨i, x, o, m⟩ => [(0, .int .u64 x), (5, .slice (gA o) m (gC o)), (6, .int .i64 (i : Nat))]) (fun ⟨i, x, o, m⟩ => []) [] (fun ⟨i, x, o, m⟩ => gL o m (iv .u8 (highF n i)) 5) (fun ⟨i, x, o, m⟩ => k - i) (0, n, none, 0) rfl cov ⟨Nat.zero_le _, rfl, rfl, (by simp)⟩ ?_
 rintro ⟨i, x, o, m⟩ ⟨hi, ho, hm, hx⟩; dsimp only at hi ho hm hx ⊢; have hbd := divBd (i := i) hn.1 hn.2
 refine W.seq ?_
 refine sr ?_
 refine omv ?_
 refine omv ?_
 refine ov (v2 V_lss) ?_
 refine omv ?_
 refine WL.splitD rfl (fun g1 => ?_) (fun g1 => ?_)
 · refine oy rfl (decide_eq_true g1) ?_
   refine omv ?_
   refine oy rfl (decide_eq_true g1) ?_
   refine ov (v2 V_lss) ?_
   refine ov (V_pick_td rfl g1 rfl) ?_
   refine nq ?_
   refine W.cond_dec rfl (fun g2 => ?_) (fun g2 => ?_)
   · refine W.skip ?_
     refine WQ.then ?_
     refine W.seq ?_
     refine W.block ?_
     refine sr ?_
     refine omv ?_
     refine ov (vcv .u8) ?_
     refine obsI (k := .u8) 5 1 [_] (fun b18 => ?_)
     refine omv ?_
     refine oap 5 1 (fun b20 c20 r20 h20 => ?_)
     refine oas ?_
     refine nq ?_
     refine W.region ?_
     refine omv ?_
     first | refine ov vquoU ?_ | refine ov (V_quo rfl rfl (by omega)) ?_
     refine oas ?_
     refine WL.nil ?_
     refine WQ.block_normal ?_
     refine WQ.then ?_
     refine W.region ?_
     refine omv ?_
     first | refine ov vaddN ?_ | refine ov vadd ?_
     refine oas ?_
     refine WL.nil ?_
     rw [highStep hn.1 (by omega) hx]
     exact ag (i + 1, x / 256, some (b20, c20, r20), 1 + m) [0, 5, 6, 1, 4] (by (try dsimp only); exact ⟨by omega, h20, by omega, divStep hn.1 hx⟩) (by show k - (i + 1) < k - i; omega) rfl cov
   · refine W.exit ?_
     refine WQ.then_exit ?_
     refine WQ.then_exit ?_
     refine WQ.block_hit ?_
     refine WQ.then ?_
     refine sr ?_
     refine omv ?_
     refine oas ?_
     refine nq ?_
     refine W.ret ?_
     refine WQ.ret1 Tryz.results75 (.tmp rfl) ?_
     intro w' hp; obtain rfl : i = k := by omega
     subst hm; exact ⟨o, ho, rfl, hp.cov cov⟩
 · refine on rfl (decide_eq_false g1) ?_
   refine on rfl (decide_eq_false g1) ?_
   refine ov (V_pick_fd rfl g1 rfl) ?_
   refine nq ?_
   refine W.cond_false rfl rfl ?_
   refine W.exit ?_
   refine WQ.then_exit ?_
   refine WQ.then_exit ?_
   refine WQ.block_hit ?_
   refine WQ.then ?_
   refine sr ?_
   refine omv ?_
   refine oas ?_
   refine nq ?_
   refine W.ret ?_
   refine WQ.ret1 Tryz.results75 (.tmp rfl) ?_
   intro w' hp; obtain rfl : i = k := by omega
   subst hm; exact ⟨o, ho, rfl, hp.cov cov⟩

theorem rjoin_calls (A : Option Addr) (n cap : Nat) (ll : List (List Int)) (w : World) (hr : Rows w A n ll) (hj : (joinF ll).length ≤ 4000000) :
    Calls Tryz.prog 74 [.slice A n cap].toArray w fun e w' => ∃ o : Gr, GrOK o (joinF ll).length ∧ e = .returned (.slice (gA o) (joinF ll).length (gC o)) ∧ HP w w' [] (gL o (joinF ll).length (iv .u8 (joinF ll)) 5) := by
 obtain ⟨hlen, hn, vs, hvs, hrow⟩ := hr.open
 refine calls_of_W Tryz.func74 rfl Tryz.ntmps74 rfl rfl (HP.refl w []) ?_
 refine sr ?_
 refine oas ?_
 refine nx ?_
 refine oas ?_
 refine nq ?_
 refine W.seq ?_
 refine sr ?_
 refine oas ?_
 refine nq ?_
 refine W.block ?_
 -- LOOP 0
 refine W.pick (S' := [(3, _), (4, _), (0, _), (2, _)]) [3, 4, 0, 2] rfl ?_
 refine W.loopG (σ := Nat × Gr × Nat) (fun ⟨i, o, m⟩ => i ≤ n ∧ GrOK o m ∧ (joinF (ll.take i)).length = m) (fun ⟨i, o, m⟩ => [(3, .slice (gA o) m (gC o)), (4, .int .i64 (i : Nat))]) (fun ⟨i, o, m⟩ => []) [] (fun ⟨i, o, m⟩ => gL o m (iv .u8 (joinF (ll.take i))) 5) (fun ⟨i, o, m⟩ => n - i) (0, none, 0) rfl cov ⟨Nat.zero_le _, rfl, rfl⟩ ?_
 rintro ⟨i, o, m⟩ ⟨hi, ho, hm⟩; dsimp only at hi ho hm ⊢
 refine W.seq ?_
 refine sr ?_
 refine omv ?_
 refine omv ?_
 refine ov vlenS ?_
 refine ov (v2 V_lss) ?_
 refine nq ?_
 refine W.cond_dec rfl (fun g1 => ?_) (fun g1 => ?_)
 · refine W.skip ?_
   refine WQ.then ?_
   refine W.seq ?_
   refine W.block ?_
   obtain ⟨bbA, ooA, rfl⟩ := hvs.hasN sc
   refine dr (.q 0 (.q 1 (.q 2 (.q 3 (.q 4 (.q 5 (.q 6 (.q 9 (.q 10 (.q 11 (.q 12 (.l 7 (.l 8 (.l 13 (.q 14 (.done)))))))))))))))) [] ?_
   refine dq rfl (V_move rfl) ?_
   refine dq rfl (V_move rfl) ?_
   refine dq rfl (V_move rfl) ?_
   obtain ⟨l, hl⟩ := exrow hlen (i := i) (by omega)
   obtain ⟨v, hv, B, q, bc, rfl, hbc, hsb, hbb⟩ := hrow i l hl
   obtain rfl := SrW.ilen hsb
   have hle := rowLe hl
   first | refine dq rfl viS1 ?_ | refine dq rfl viS1Z ?_
   refine dq rfl (vldV _) ?_
   refine dq rfl vlenS ?_
   first | refine dq rfl (vcvN .u64) ?_ | refine dq rfl (vcv .u64) ?_
   refine dq rfl (V_move rfl) ?_
   refine dq rfl (V_move rfl) ?_
   first | refine dq rfl viS1 ?_ | refine dq rfl viS1Z ?_
   refine dq rfl (vldV _) ?_
   refine WD.l ?_
   refine dcgG rfl rfl (fun w hp => rhigh_calls _ 4 w sc sc) (fun o18 h18 => ?_)
   refine WD.l ?_
   refine dapG rfl 5 1 (fun o19 h19 p19 => ?_)
   refine WD.l ?_
   refine dapG rfl 5 1 (fun o24 h24 p24 => ?_)
   refine dq rfl (V_assign rfl) ?_
   refine WD.done ?_
   refine WQ.block_normal ?_
   refine WQ.then ?_
   refine W.region ?_
   refine omv ?_
   first | refine ov vaddN ?_ | refine ov vadd ?_
   refine oas ?_
   refine WL.nil ?_
   rw [joinStep hl]
   exact ag (i + 1, o24, m + 4 + l.length) [3, 4, 0, 2] (by (try dsimp only); exact ⟨by omega, by assumption, by rw [joinLen hl, hm]⟩) (by (try dsimp only); omega) rfl cov
 · refine W.exit ?_
   refine WQ.then_exit ?_
   refine WQ.then_exit ?_
   refine WQ.block_hit ?_
   refine WQ.then ?_
   refine sr ?_
   refine omv ?_
   refine oas ?_
   refine nq ?_
   refine W.ret ?_
   refine WQ.ret1 Tryz.results74 (.tmp rfl) ?_
   intro w' hp; obtain rfl : i = n := by omega
   rw [show ll.take i = ll from List.take_of_length_le (by omega)] at hm hp
   subst hm; exact ⟨o, ho, rfl, hp.cov cov⟩

end Go.Proofs.YtmeckbjinmgbbaaGreat