/- The document's answer for octets: numbers' bytes, rows joined, light rows. -/
import Derived.Test.YtnpnnafcdnefiaaJoin
set_option linter.unusedVariables false
set_option linter.unusedSimpArgs false

namespace Go.Proofs.Ytnpnnafcdnefiaa
open Go.X
theorem lowB_eq {n : Int} {i : Nat} (h0 : 0 ≤ n) (hi : i < 8) : lowB n i = IntKind.u8.wrap (n / 256 ^ i) := by
  unfold lowB shrI
  rw [show (8 * (i : Int)).toNat = 8 * i by omega, show min (8 * i) IntKind.u64.bits = 8 * i from Nat.min_eq_left (by show 8 * i ≤ 64; omega)]
  rw [Int.fdiv_eq_ediv_of_nonneg _ (by exact Int.le_of_lt (Int.pow_pos (by decide))), show (2 : Int) ^ (8 * i) = 256 ^ i by rw [Int.pow_mul]; rfl]
theorem highF_succ {n : Int} {i : Nat} : highF n (i + 1) = lowB n i :: highF n i := by
  simp [highF, lowF, List.range_succ]
theorem highStep {n x : Int} {i : Nat} (h0 : 0 ≤ n) (hi : i < 8) (hx : x = n / 256 ^ i) : [IntKind.u8.wrap x] ++ highF n i = highF n (i + 1) := by
  rw [highF_succ, lowB_eq h0 hi, hx]; rfl
theorem divStep {n x : Int} {i : Nat} (h0 : 0 ≤ n) (hx : x = n / 256 ^ i) : x / 256 = n / 256 ^ (i + 1) := by
  rw [hx, Int.pow_succ, Int.ediv_ediv_of_nonneg (Int.le_of_lt (Int.pow_pos (by decide)))]
theorem divBd {n : Int} {i : Nat} (h0 : 0 ≤ n) (h1 : n ≤ 18446744073709551615) : 0 ≤ n / 256 ^ i ∧ n / 256 ^ i ≤ 18446744073709551615 :=
  ⟨Int.ediv_nonneg h0 (Int.le_of_lt (Int.pow_pos (by decide))), Int.le_trans (Int.ediv_le_self _ h0) h1⟩

theorem rhigh_calls (n : Int) (k : Nat) (w : World) (hn : 0 ≤ n ∧ n ≤ 18446744073709551615) (hk : k ≤ 8) :
    Calls Try.prog 79 [.int .u64 n, .int .i64 k].toArray w fun e w' => ∃ o : Gr, GrOK o k ∧ e = .returned (.slice (gA o) k (gC o)) ∧ HP w w' [] (gL o k (iv .u8 (highF n k)) 5) := by
 refine calls_of_W Try.func79 rfl Try.ntmps79 rfl rfl (HP.refl w []) ?_
 refine sr ?_
 refine oas ?_
 refine nx ?_
 refine oas ?_
 refine nq ?_
 refine W.seq ?_
 refine sr ?_
 refine oas ?_
 refine nq ?_
 refine W.block ?_
 -- LOOP 0
 refine W.pick (S' := [(0, _), (5, _), (6, _), (1, _), (4, _)]) [0, 5, 6, 1, 4] rfl ?_
 refine W.loopG (σ := Nat × Int × Gr × Nat) (fun ⟨i, x, o, m⟩ => i ≤ k ∧ GrOK o m ∧ m = i ∧ x = n / 256 ^ i) (fun ⟨i, x, o, m⟩ => [(0, .int .u64 x), (5, .slice (gA o) m (gC o)), (6, .int .i64 (i : Nat))]) (fun ⟨i, x, o, m⟩ => []) [] (fun ⟨i, x, o, m⟩ => gL o m (iv .u8 (highF n i)) 5) (fun ⟨i, x, o, m⟩ => k - i) (0, n, none, 0) rfl cov ⟨Nat.zero_le _, rfl, rfl, (by simp)⟩ ?_
 rintro ⟨i, x, o, m⟩ ⟨hi, ho, hm, hx⟩; dsimp only at hi ho hm hx ⊢; have hbd := divBd (i := i) hn.1 hn.2
 refine W.seq ?_
 refine sr ?_
 refine omv ?_
 refine omv ?_
 refine ov (v2 V_lss) ?_
 refine omv ?_
 refine WL.splitD rfl (fun g1 => ?_) (fun g1 => ?_)
 · refine oy rfl (decide_eq_true g1) ?_
   refine omv ?_
   refine oy rfl (decide_eq_true g1) ?_
   refine ov (v2 V_lss) ?_
   refine ov (V_pick_td rfl g1 rfl) ?_
   refine nq ?_
   refine W.cond_dec rfl (fun g2 => ?_) (fun g2 => ?_)
   · refine W.skip ?_
     refine WQ.then ?_
     refine W.seq ?_
     refine W.block ?_
     refine sr ?_
     refine omv ?_
     refine ov (vcv .u8) ?_
     refine obsI (k := .u8) 5 1 [_] (fun b18 => ?_)
     refine omv ?_
     refine oap 5 1 (fun b20 c20 r20 h20 => ?_)
     refine oas ?_
     refine nq ?_
     refine W.region ?_
     refine omv ?_
     first | refine ov vquoU ?_ | refine ov (V_quo rfl rfl (by omega)) ?_
     refine oas ?_
     refine WL.nil ?_
     refine WQ.block_normal ?_
     refine WQ.then ?_
     refine W.region ?_
     refine omv ?_
     first | refine ov vaddN ?_ | refine ov vadd ?_
     refine oas ?_
     refine WL.nil ?_
     rw [highStep hn.1 (by omega) hx]
     exact ag (i + 1, x / 256, some (b20, c20, r20), 1 + m) [0, 5, 6, 1, 4] (by (try dsimp only); exact ⟨by omega, h20, by omega, divStep hn.1 hx⟩) (by show k - (i + 1) < k - i; omega) rfl cov
   · refine W.exit ?_
     refine WQ.then_exit ?_
     refine WQ.then_exit ?_
     refine WQ.block_hit ?_
     refine WQ.then ?_
     refine sr ?_
     refine omv ?_
     refine oas ?_
     refine nq ?_
     refine W.ret ?_
     refine WQ.ret1 Try.results79 (.tmp rfl) ?_
     intro w' hp; obtain rfl : i = k := by omega
     subst hm; exact ⟨o, ho, rfl, hp.cov cov⟩
 · refine on rfl (decide_eq_false g1) ?_
   refine on rfl (decide_eq_false g1) ?_
   refine ov (V_pick_fd rfl g1 rfl) ?_
   refine nq ?_
   refine W.cond_false rfl rfl ?_
   refine W.exit ?_
   refine WQ.then_exit ?_
   refine WQ.then_exit ?_
   refine WQ.block_hit ?_
   refine WQ.then ?_
   refine sr ?_
   refine omv ?_
   refine oas ?_
   refine nq ?_
   refine W.ret ?_
   refine WQ.ret1 Try.results79 (.tmp rfl) ?_
   intro w' hp; obtain rfl : i = k := by omega
   subst hm; exact ⟨o, ho, rfl, hp.cov cov⟩

def lightF (ll : List (List Int)) : Int := ll.foldl (fun n l => n + min (l.length : Int) 10000) 0
theorem lightStep {ll : List (List Int)} {i : Nat} {l : List Int} (h : ll[i]? = some l) : lightF (ll.take (i + 1)) = lightF (ll.take i) + min (l.length : Int) 10000 := by
  rw [take_some h]; simp [lightF]
theorem lightBd (ll : List (List Int)) : 0 ≤ lightF ll ∧ lightF ll ≤ ll.length * 10000 := by
  have h : ∀ (ll : List (List Int)) (n : Int), n ≤ ll.foldl (fun n l => n + min (l.length : Int) 10000) n ∧ ll.foldl (fun n l => n + min (l.length : Int) 10000) n ≤ n + ll.length * 10000 := by
    intro ll
    induction ll with
    | nil => simp
    | cons l ll ih => intro n; have := ih (n + min (l.length : Int) 10000); simp only [List.foldl_cons, List.length_cons]; omega
  have := h ll 0; unfold lightF; omega
def lightB (ll : List (List Int)) : Bool := decide (ll.length ≤ 60) && decide (lightF ll < 10000)

end Go.Proofs.Ytnpnnafcdnefiaa