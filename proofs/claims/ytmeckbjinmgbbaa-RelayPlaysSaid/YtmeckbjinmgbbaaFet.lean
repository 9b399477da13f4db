/- A relay: keys for once told; mails told, let go; suspended. -/
import Derived.Test.YtmeckbjinmgbbaaReg
set_option linter.unusedVariables false
set_option linter.unusedSimpArgs false

namespace Go.Proofs.Ytmeckbjinmgbbaa
open Go.X
theorem kv_len {ks : List (List Int)} (h : ∀ k ∈ ks, k.length = 32) : ∀ k ∈ ks, (iv .u8 k).length = 32 := fun k hk => by rw [iv_len, h k hk]
theorem once_cut {w : World} {A : Option Addr} {n c : Nat} {k : List Int} {ks : List (List Int)} (h : SrW w 32 A n ((k :: ks).flatMap (iv .u8))) (hk : k.length = 32) (hl : (ks.flatMap (iv .u8)).length = ks.length * 32) (hn : ks.length = n - 1) (h0 : 0 < n) (hc : n ≤ c) : SrW w 32 (cutA A 1 c 32) (n - 1) (ks.flatMap (iv .u8)) := by
  have h1 := h.cut (l := 1) (h := n) (m := c) (by omega) (by omega) hc
  rw [List.flatMap_cons, List.drop_append_of_le_length (by rw [iv_len]; omega), List.drop_of_length_le (by rw [iv_len]; omega), List.nil_append, List.take_of_length_le (by rw [hl]; omega)] at h1
  exact h1

theorem fet20_calls (R b : Nat) (ps : List (Option Nat)) (h8 : ps.length = 8) (n : Int) (a : PAcc) (hpk : POK a) (hq : ofP ps n = some a.p) (w : World) (hp0 : HP w w (((b, .cells (relS R ps) 110) :: accP a).map (·.1)) ((b, .cells (relS R ps) 110) :: accP a)) :
    Calls Try.prog 20 [.pointer (some ⟨b, 0, none⟩), .int .i64 n].toArray w fun e w' => ∃ a' : PAcc, (POK a' ∧ a'.p = a.p ∧ a'.abs = fetL a.abs) ∧ e = .returned (.tuple #[AG (bunA a.abs), .int .i64 0]) ∧ HP w w' (((b, .cells (relS R ps) 110) :: accP a).map (·.1)) ((b, .cells (relS R ps) 110) :: accP a') := by
 obtain ⟨link, idn, sig, b3, hs3, susp, t, nt, many, p, bx, tk, o, ms, oA, on, oc, ks, oL⟩ := a
 have hpk1 := hpk
 obtain ⟨hok, hz1, hz2⟩ := hpk1
 have hok0 := hok
 obtain ⟨al, alb, ai, as_, ab, ams, ao, am, abk, aon, aoc, akl, ak8, aonce⟩ := hok
 dsimp only at al alb ai as_ ab ams ao am abk aon aoc akl ak8 aonce hq hz1 hz2 ⊢
 subst hz1
 subst hz2
 have hn := (ofP_yes hq).1
 simp only [accP, hid0] at hp0 ⊢
 refine calls_of_W Try.func20 rfl Try.ntmps20 rfl rfl hp0 ?_
 refine sr ?_
 refine oal [(32, List.replicate 32 (.int .u8 0)), (32, List.replicate 32 (.int .u8 0)), (32, List.replicate 32 (.int .u8 0)), (1, [.bool false])] (fun b4 => ?_)
 refine oas ?_
 refine nx ?_
 refine omv ?_
 refine omv ?_
 refine cp rfl (fun w hp => of20_calls R b ps h8 n p hq w hat) ?_
 refine omv ?_
 refine ov vex ?_
 refine ov vex ?_
 refine oas ?_
 refine oas ?_
 refine nq ?_
 refine W.seq ?_
 refine sr ?_
 refine omv ?_
 refine ov (v2 V_neq) ?_
 refine nq ?_
 refine W.cond_false rfl rfl ?_
 refine W.skip ?_
 refine WQ.then ?_
 refine sr ?_
 refine omv ?_
 refine ov vnil ?_
 refine ov (vfa0 32 97) ?_
 refine ov (vlda 97) ?_
 refine oal [(32, List.replicate 32 (.int .u8 0)), (32, List.replicate 32 (.int .u8 0)), (32, List.replicate 32 (.int .u8 0)), (1, [.bool false])] (fun b8 => ?_)
 refine osta 97 ?_
 refine nq ?_
 refine W.seq ?_
 refine W.seq ?_
 by_cases hk : ∃ k ks2, ks = k :: ks2
 · obtain ⟨k, ks2, rfl⟩ := hk
   have hk0 := akl k List.mem_cons_self
   have hks : ks2.length = on - 1 := by simp at aon; omega
   have hon : 0 < on := by simp at aon; omega
   obtain ⟨bA, qA, rfl⟩ : ∃ x y, oA = some ⟨x, y, none⟩ := by
     have h1 := hok0.sr hp0
     obtain ⟨x, y, z⟩ := h1.has (by dsimp only; rw [once_len akl]; simp); exact ⟨x, y, z⟩
   refine W.region ?_
   refine omv ?_
   refine ov vnil ?_
   refine ov (vfa0 129 1) ?_
   refine ov vld ?_
   refine ov vlenS ?_
   refine ov (v2 V_gtr) ?_
   refine nq ?_
   refine W.cond_true rfl (decide_eq_true (by omega)) ?_
   refine sr ?_
   refine omv ?_
   refine ov vnil ?_
   refine ov (vfa0 129 1) ?_
   refine ov vld ?_
   refine ov (viS 32) ?_
   refine ov (vldOAs' 32 0 (l := k :: ks2) (ds := [(32, iv .u8 k)]) (kv_len akl) (fun w hp => hok0.sr hp) rfl (by simp [flat]) (hq := by rfl)) ?_
   refine ov (vfa0 64 32) ?_
   refine osta 32 ?_
   refine ov (vfa0 96 1) ?_
   refine ost ?_
   refine nq ?_
   refine W.region ?_
   refine omv ?_
   refine omv ?_
   refine ov vnil ?_
   refine ov (vfa0 129 1) ?_
   refine ov vld ?_
   refine ov (vslFr 32 (l := 1)) ?_
   refine ov vnil ?_
   refine ov (vfa0 129 1) ?_
   refine ost ?_
   refine nx ?_
   refine ov (vlda 97) ?_
   refine osta 97 ?_
   refine oas ?_
   refine nq ?_
   refine W.ret ?_
   refine WQ.ret2 Try.results20 (.cellA 97 (by kernel_rfl) rfl at_ (by rfl)) (.tmp rfl) ?_
   intro w' hp; refine ⟨⟨link, idn, sig, List.replicate 32 0, false, susp, t, nt, many, p, bx, tk, o, ms, cutA (some ⟨bA, qA, none⟩) 1 oc 32, on - 1, oc - 1, ks2, oL⟩, ⟨⟨?_, rfl, rfl⟩, rfl, rfl⟩, rfl, hp.cov cov⟩
   exact ⟨al, alb, ai, as_, ab, ams, ao, am, abk, hks.symm, by dsimp only; omega, fun k' hk' => akl k' (List.mem_cons_of_mem _ hk'), by dsimp only; omega, fun w hw => once_cut (aonce w hw) hk0 (once_len fun k' hk' => akl k' (List.mem_cons_of_mem _ hk')) hks hon aoc⟩
 · have hks : ks = [] := by
     cases ks with
     | nil => rfl
     | cons k ks2 => exact absurd ⟨k, ks2, rfl⟩ hk
   subst hks
   have hon : on = 0 := aon
   refine W.region ?_
   refine omv ?_
   refine ov vnil ?_
   refine ov (vfa0 129 1) ?_
   refine ov vld ?_
   refine ov vlenS ?_
   refine ov (v2 V_gtr) ?_
   refine nq ?_
   refine W.cond_false rfl (decide_eq_false (by omega)) ?_
   refine W.skip ?_
   refine WQ.then ?_
   refine sr ?_
   refine ov (vlda 97) ?_
   refine osta 97 ?_
   refine oas ?_
   refine nq ?_
   refine W.ret ?_
   refine WQ.ret2 Try.results20 (.cellA 97 (by kernel_rfl) rfl at_ (by rfl)) (.tmp rfl) ?_
   intro w' hp; subst hon; exact ⟨⟨link, idn, sig, List.replicate 32 0, false, susp, t, nt, many, p, bx, tk, o, ms, oA, 0, oc, [], oL⟩, ⟨hpk, rfl, rfl⟩, rfl, hp.cov cov⟩

theorem fet20_none (R b : Nat) (ps : List (Option Nat)) (h8 : ps.length = 8) (n : Int)  (hq : ofP ps n = none) (w : World) (hR : AtW w b (relS R ps)) :
    Calls Try.prog 20 [.pointer (some ⟨b, 0, none⟩), .int .i64 n].toArray w fun e w' => e = .returned (.tuple #[AG bun0, .int .i64 7]) ∧ HP w w' [] [] := by
 refine calls_of_W Try.func20 rfl Try.ntmps20 rfl rfl (HP.refl w []) ?_
 refine sr ?_
 refine oal [(32, List.replicate 32 (.int .u8 0)), (32, List.replicate 32 (.int .u8 0)), (32, List.replicate 32 (.int .u8 0)), (1, [.bool false])] (fun b4 => ?_)
 refine oas ?_
 refine nx ?_
 refine omv ?_
 refine omv ?_
 refine cp rfl (fun w hp => of20_none R b ps h8 n hq w hat) ?_
 refine omv ?_
 refine ov vex ?_
 refine ov vex ?_
 refine oas ?_
 refine oas ?_
 refine nq ?_
 refine W.seq ?_
 refine sr ?_
 refine omv ?_
 refine ov (v2 V_neq) ?_
 refine nq ?_
 refine W.cond_true rfl rfl ?_
 refine sr ?_
 refine ov (V_build (by kernel_rfl) (zi (zs := [(32, List.replicate 32 (.int .u8 0)), (32, List.replicate 32 (.int .u8 0)), (32, List.replicate 32 (.int .u8 0)), (1, [.bool false])])) (.nil _)) ?_
 refine omv ?_
 refine osta 97 ?_
 refine oas ?_
 refine nq ?_
 refine W.ret ?_
 refine WQ.then_ret ?_
 refine WQ.ret2 Try.results20 (.cellA 97 (by kernel_rfl) rfl at_ (by rfl)) (.tmp rfl) ?_
 intro w' hp; exact ⟨rfl, hp.forget⟩

theorem mails20_calls (R b : Nat) (ps : List (Option Nat)) (h8 : ps.length = 8) (n : Int) (a : PAcc) (hpk : POK a) (hq : ofP ps n = some a.p) (w : World) (hp0 : HP w w (((b, .cells (relS R ps) 110) :: accP a).map (·.1)) ((b, .cells (relS R ps) 110) :: accP a)) :
    Calls Try.prog 16 [.pointer (some ⟨b, 0, none⟩), .int .i64 n].toArray w fun e w' => ∃ r : Gr × List ML, (r.2.map (·.1) = a.abs.ms ∧ MsOK r.2 ∧ GrOK r.1 r.2.length) ∧ e = .returned (.tuple #[.slice (gA r.1) r.2.length (gC r.1), .int .i64 0]) ∧ HP w w' (((b, .cells (relS R ps) 110) :: accP a).map (·.1)) (((b, .cells (relS R ps) 110) :: accP a) ++ (gLM 138 r.1 r.2.length (r.2.flatMap mlV) 68 ++ r.2.flatMap mbL)) := by
 obtain ⟨link, idn, sig, b3, hs3, susp, t, nt, many, p, bx, tk, o, ms, oA, on, oc, ks, oL⟩ := a
 have hpk1 := hpk
 obtain ⟨hok, hz1, hz2⟩ := hpk1
 have hok0 := hok
 obtain ⟨al, alb, ai, as_, ab, ams, ao, am, abk, aon, aoc, akl, ak8, aonce⟩ := hok
 dsimp only at al alb ai as_ ab ams ao am abk aon aoc akl ak8 aonce hq hz1 hz2 ⊢
 subst hz1
 subst hz2
 have hn := (ofP_yes hq).1
 simp only [accP, hid0] at hp0 ⊢
 refine calls_of_W Try.func16 rfl Try.ntmps16 rfl rfl hp0 ?_
 refine sr ?_
 refine oas ?_
 refine oas ?_
 refine nx ?_
 refine omv ?_
 refine omv ?_
 refine cp rfl (fun w hp => of20_calls R b ps h8 n p hq w hat) ?_
 refine omv ?_
 refine ov vex ?_
 refine ov vex ?_
 refine oas ?_
 refine oas ?_
 refine nq ?_
 refine W.seq ?_
 refine sr ?_
 refine omv ?_
 refine ov (v2 V_neq) ?_
 refine nq ?_
 refine W.cond_false rfl rfl ?_
 refine W.skip ?_
 refine WQ.then ?_
 refine sr ?_
 refine omv ?_
 refine ov vnil ?_
 refine ov (vfa0 130 1) ?_
 refine ov vld ?_
 refine cgP _ rfl (fun w hp => list19_calls bx o ms many ao ams w (HP.here hp cov)) (fun r21 h21 => ?_)
 simp only [List.cons_append, List.nil_append, List.append_nil, List.append_assoc]
 refine WL.back (gLM 138 o ms.length (ms.flatMap mlV) 68) ?_
 simp only [List.cons_append, List.nil_append, List.append_nil, List.append_assoc]
 refine WL.back (ms.flatMap mbL) ?_
 simp only [List.cons_append, List.nil_append, List.append_nil, List.append_assoc]
 refine WL.back (gLM 138 r21.1 r21.2.length (r21.2.flatMap mlV) 68) ?_
 simp only [List.cons_append, List.nil_append, List.append_nil, List.append_assoc]
 refine WL.back (r21.2.flatMap mbL) ?_
 simp only [List.cons_append, List.nil_append, List.append_nil, List.append_assoc]
 refine oas ?_
 refine oas ?_
 refine nq ?_
 refine W.ret ?_
 refine WQ.ret2 Try.results16 (.tmp rfl) (.tmp rfl) ?_
 intro w' hp; exact ⟨r21, h21, rfl, hp.cov cov⟩

theorem mails20_none (R b : Nat) (ps : List (Option Nat)) (h8 : ps.length = 8) (n : Int)  (hq : ofP ps n = none) (w : World) (hR : AtW w b (relS R ps)) :
    Calls Try.prog 16 [.pointer (some ⟨b, 0, none⟩), .int .i64 n].toArray w fun e w' => e = .returned (.tuple #[.slice none 0 0, .int .i64 7]) ∧ HP w w' [] [] := by
 refine calls_of_W Try.func16 rfl Try.ntmps16 rfl rfl (HP.refl w []) ?_
 refine sr ?_
 refine oas ?_
 refine oas ?_
 refine nx ?_
 refine omv ?_
 refine omv ?_
 refine cp rfl (fun w hp => of20_none R b ps h8 n hq w hat) ?_
 refine omv ?_
 refine ov vex ?_
 refine ov vex ?_
 refine oas ?_
 refine oas ?_
 refine nq ?_
 refine W.seq ?_
 refine sr ?_
 refine omv ?_
 refine ov (v2 V_neq) ?_
 refine nq ?_
 refine W.cond_true rfl rfl ?_
 refine sr ?_
 refine omv ?_
 refine oas ?_
 refine oas ?_
 refine nq ?_
 refine W.ret ?_
 refine WQ.then_ret ?_
 refine WQ.ret2 Try.results16 (.tmp rfl) (.tmp rfl) ?_
 intro w' hp; exact ⟨rfl, hp.forget⟩

theorem ack20_calls (R b : Nat) (ps : List (Option Nat)) (h8 : ps.length = 8) (n : Int) (a : PAcc) (hpk : POK a) (hq : ofP ps n = some a.p) (id : Int) (w : World) (hp0 : HP w w (((b, .cells (relS R ps) 110) :: accP a).map (·.1)) ((b, .cells (relS R ps) 110) :: accP a)) :
    Calls Try.prog 25 [.pointer (some ⟨b, 0, none⟩), .int .i64 n, .int .i64 id].toArray w fun e w' => ∃ a' : PAcc, (POK a' ∧ a'.p = a.p ∧ a'.abs = ackA a.abs id) ∧ e = .returned (.int .i64 (ackE a.abs.ms a.many id)) ∧ HP w w' (((b, .cells (relS R ps) 110) :: accP a).map (·.1)) ((b, .cells (relS R ps) 110) :: accP a') := by
 obtain ⟨link, idn, sig, b3, hs3, susp, t, nt, many, p, bx, tk, o, ms, oA, on, oc, ks, oL⟩ := a
 have hpk1 := hpk
 obtain ⟨hok, hz1, hz2⟩ := hpk1
 have hok0 := hok
 obtain ⟨al, alb, ai, as_, ab, ams, ao, am, abk, aon, aoc, akl, ak8, aonce⟩ := hok
 dsimp only at al alb ai as_ ab ams ao am abk aon aoc akl ak8 aonce hq hz1 hz2 ⊢
 subst hz1
 subst hz2
 have hn := (ofP_yes hq).1
 simp only [accP, hid0] at hp0 ⊢
 refine calls_of_W Try.func25 rfl Try.ntmps25 rfl rfl hp0 ?_
 refine sr ?_
 refine oas ?_
 refine nx ?_
 refine omv ?_
 refine omv ?_
 refine cp rfl (fun w hp => of20_calls R b ps h8 n p hq w hat) ?_
 refine omv ?_
 refine ov vex ?_
 refine ov vex ?_
 refine oas ?_
 refine oas ?_
 refine nq ?_
 refine W.seq ?_
 refine sr ?_
 refine omv ?_
 refine ov (v2 V_neq) ?_
 refine nq ?_
 refine W.cond_false rfl rfl ?_
 refine W.skip ?_
 refine WQ.then ?_
 refine sr ?_
 refine omv ?_
 refine ov vnil ?_
 refine ov (vfa0 130 1) ?_
 refine ov vld ?_
 refine omv ?_
 refine cgP _ rfl (fun w hp => ack19_calls bx o ms many ao ams id w (HP.here hp cov)) (fun r23 h23 => ?_)
 simp only [List.cons_append, List.nil_append, List.append_nil, List.append_assoc]
 refine WL.back (gLM 138 r23.1 r23.2.length (r23.2.flatMap mlV) 68) ?_
 simp only [List.cons_append, List.nil_append, List.append_nil, List.append_assoc]
 refine WL.back (r23.2.flatMap mbL) ?_
 simp only [List.cons_append, List.nil_append, List.append_nil, List.append_assoc]
 refine oas ?_
 refine nq ?_
 refine W.ret ?_
 refine WQ.ret1 Try.results25 (.tmp rfl) ?_
 intro w' hp; refine ⟨⟨link, idn, sig, List.replicate 32 0, false, susp, t, nt, many, p, bx, tk, r23.1, r23.2, oA, on, oc, ks, oL⟩, ⟨⟨?_, rfl, rfl⟩, rfl, ?_⟩, rfl, hp.cov cov⟩
 · exact ⟨al, alb, ai, as_, ab, h23.2.1, h23.2.2, am, abk, aon, aoc, akl, ak8, aonce⟩
 · unfold PAcc.abs ackA; dsimp only; rw [h23.1]

theorem ack20_none (R b : Nat) (ps : List (Option Nat)) (h8 : ps.length = 8) (n : Int) (id : Int) (hq : ofP ps n = none) (w : World) (hR : AtW w b (relS R ps)) :
    Calls Try.prog 25 [.pointer (some ⟨b, 0, none⟩), .int .i64 n, .int .i64 id].toArray w fun e w' => e = .returned (.int .i64 7) ∧ HP w w' [] [] := by
 refine calls_of_W Try.func25 rfl Try.ntmps25 rfl rfl (HP.refl w []) ?_
 refine sr ?_
 refine oas ?_
 refine nx ?_
 refine omv ?_
 refine omv ?_
 refine cp rfl (fun w hp => of20_none R b ps h8 n hq w hat) ?_
 refine omv ?_
 refine ov vex ?_
 refine ov vex ?_
 refine oas ?_
 refine oas ?_
 refine nq ?_
 refine W.seq ?_
 refine sr ?_
 refine omv ?_
 refine ov (v2 V_neq) ?_
 refine nq ?_
 refine W.cond_true rfl rfl ?_
 refine sr ?_
 refine omv ?_
 refine oas ?_
 refine nq ?_
 refine W.ret ?_
 refine WQ.then_ret ?_
 refine WQ.ret1 Try.results25 (.tmp rfl) ?_
 intro w' hp; exact ⟨rfl, hp.forget⟩

theorem sus20_calls (R b : Nat) (ps : List (Option Nat)) (h8 : ps.length = 8) (n : Int) (a : PAcc) (hpk : POK a) (hq : ofP ps n = some a.p) (is : Bool) (w : World) (hp0 : HP w w (((b, .cells (relS R ps) 110) :: accP a).map (·.1)) ((b, .cells (relS R ps) 110) :: accP a)) :
    Calls Try.prog 22 [.pointer (some ⟨b, 0, none⟩), .int .i64 n, .bool is].toArray w fun e w' => ∃ a' : PAcc, (POK a' ∧ a'.p = a.p ∧ a'.abs = susL a.abs is) ∧ e = .returned (.int .i64 0) ∧ HP w w' (((b, .cells (relS R ps) 110) :: accP a).map (·.1)) ((b, .cells (relS R ps) 110) :: accP a') := by
 obtain ⟨link, idn, sig, b3, hs3, susp, t, nt, many, p, bx, tk, o, ms, oA, on, oc, ks, oL⟩ := a
 have hpk1 := hpk
 obtain ⟨hok, hz1, hz2⟩ := hpk1
 have hok0 := hok
 obtain ⟨al, alb, ai, as_, ab, ams, ao, am, abk, aon, aoc, akl, ak8, aonce⟩ := hok
 dsimp only at al alb ai as_ ab ams ao am abk aon aoc akl ak8 aonce hq hz1 hz2 ⊢
 subst hz1
 subst hz2
 have hn := (ofP_yes hq).1
 simp only [accP, hid0] at hp0 ⊢
 refine calls_of_W Try.func22 rfl Try.ntmps22 rfl rfl hp0 ?_
 refine sr ?_
 refine oas ?_
 refine nx ?_
 refine omv ?_
 refine omv ?_
 refine cp rfl (fun w hp => of20_calls R b ps h8 n p hq w hat) ?_
 refine omv ?_
 refine ov vex ?_
 refine ov vex ?_
 refine oas ?_
 refine oas ?_
 refine nq ?_
 refine W.seq ?_
 refine sr ?_
 refine omv ?_
 refine ov (v2 V_eql) ?_
 refine nq ?_
 refine W.cond_true rfl rfl ?_
 refine W.region ?_
 refine omv ?_
 refine omv ?_
 refine ov vnil ?_
 refine ov (vfa0 132 1) ?_
 refine ost ?_
 refine nx ?_
 refine omv ?_
 refine oas ?_
 refine nq ?_
 refine W.ret ?_
 refine WQ.ret1 Try.results22 (.tmp rfl) ?_
 intro w' hp; exact ⟨⟨link, idn, sig, List.replicate 32 0, false, is, t, nt, many, p, bx, tk, o, ms, oA, on, oc, ks, oL⟩, ⟨⟨⟨al, alb, ai, as_, ab, ams, ao, am, abk, aon, aoc, akl, ak8, aonce⟩, rfl, rfl⟩, rfl, rfl⟩, rfl, hp.cov cov⟩

theorem sus20_none (R b : Nat) (ps : List (Option Nat)) (h8 : ps.length = 8) (n : Int) (is : Bool) (hq : ofP ps n = none) (w : World) (hR : AtW w b (relS R ps)) :
    Calls Try.prog 22 [.pointer (some ⟨b, 0, none⟩), .int .i64 n, .bool is].toArray w fun e w' => e = .returned (.int .i64 7) ∧ HP w w' [] [] := by
 refine calls_of_W Try.func22 rfl Try.ntmps22 rfl rfl (HP.refl w []) ?_
 refine sr ?_
 refine oas ?_
 refine nx ?_
 refine omv ?_
 refine omv ?_
 refine cp rfl (fun w hp => of20_none R b ps h8 n hq w hat) ?_
 refine omv ?_
 refine ov vex ?_
 refine ov vex ?_
 refine oas ?_
 refine oas ?_
 refine nq ?_
 refine W.seq ?_
 refine sr ?_
 refine omv ?_
 refine ov (v2 V_eql) ?_
 refine nq ?_
 refine W.cond_false rfl rfl ?_
 refine W.skip ?_
 refine WQ.then ?_
 refine sr ?_
 refine omv ?_
 refine oas ?_
 refine nq ?_
 refine W.ret ?_
 refine WQ.ret1 Try.results22 (.tmp rfl) ?_
 intro w' hp; exact ⟨rfl, hp.forget⟩

end Go.Proofs.Ytmeckbjinmgbbaa