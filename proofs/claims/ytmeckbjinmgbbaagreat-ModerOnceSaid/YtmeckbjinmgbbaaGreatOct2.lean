/- octets: numbers' bytes. -/
import Derived.Test.YtmeckbjinmgbbaaGreatMac
import Derived.Test.YtmeckbjinmgbbaaGreatXB
set_option linter.unusedVariables false
set_option linter.unusedSimpArgs false

namespace Go.Proofs.YtmeckbjinmgbbaaGreat
open Go.X
/-- A number's byte. -/
def lowB (n : Int) (i : Nat) : Int := IntKind.u8.wrap (shrI .u64 n (8 * (i : Int)))
def lowF (n : Int) (k : Nat) : List Int := (List.range k).map (lowB n)
def highF (n : Int) (k : Nat) : List Int := (lowF n k).reverse
@[simp] theorem lowF_len {n : Int} {k : Nat} : (lowF n k).length = k := by simp [lowF]
@[simp] theorem highF_len {n : Int} {k : Nat} : (highF n k).length = k := by simp [highF]
theorem lowF_bytes {n : Int} {k : Nat} : bytes (lowF n k) := fun c hc => by
  obtain ⟨i, _, rfl⟩ := List.mem_map.1 hc
  unfold lowB; rw [IntKind.wrap_u8]; omega
theorem highF_bytes {n : Int} {k : Nat} : bytes (highF n k) := lowF_bytes.rev
theorem bytes_nil : bytes [] := fun c hc => by cases hc
theorem bytes_cons {a : Int} {l : List Int} : bytes (a :: l) ↔ (0 ≤ a ∧ a ≤ 255) ∧ bytes l := by
  constructor
  · intro h; exact ⟨h a List.mem_cons_self, fun c hc => h c (List.mem_cons_of_mem _ hc)⟩
  · rintro ⟨h1, h2⟩ c hc
    rcases List.mem_cons.1 hc with rfl | hc
    · exact h1
    · exact h2 c hc
theorem bytes_app {l m : List Int} : bytes (l ++ m) ↔ bytes l ∧ bytes m :=
  ⟨fun h => ⟨fun c hc => h c (List.mem_append_left _ hc), fun c hc => h c (List.mem_append_right _ hc)⟩, fun h => h.1.app h.2⟩
theorem bytes_take {l : List Int} {n : Nat} (h : bytes l) : bytes (l.take n) := h.take n
theorem bytes_drop {l : List Int} {n : Nat} (h : bytes l) : bytes (l.drop n) := h.drop n
theorem lowStep {n : Int} {k i : Nat} (h : i < k) : ((List.range i).map (lowB n) ++ List.replicate (k - i) 0).set i (IntKind.u8.wrap (shrI .u64 n (8 * (i : Int)))) = (List.range (i + 1)).map (lowB n) ++ List.replicate (k - (i + 1)) 0 := fillStep h
attribute [simp] bytes_nil bytes_cons bytes_app bytes_take bytes_drop lowF_bytes highF_bytes macF_bytes macF_len

theorem low_calls (n : Int) (k : Nat) (w : World) (hk : k ≤ 8) :
    Calls Tryz.prog 98 [.int .u64 n, .int .i64 k].toArray w fun e w' => ∃ r : Nat, True ∧ e = .returned (.slice (some ⟨r, 0, none⟩) k k) ∧ HP w w' [] [(r, .cells [(k, iv .u8 (lowF n k)), (k - k, [])] 5)] := by
 refine calls_of_W Tryz.func98 rfl Tryz.ntmps98 rfl rfl (HP.refl w []) ?_
 refine sr ?_
 refine oas ?_
 refine nx ?_
 refine omv ?_
 refine ov (V_max rfl) ?_
 refine ov (V_min rfl) ?_
 refine omkI (n := k) (k := .u8) 5 1 (fun b10 => ?_)
 refine oas ?_
 refine nq ?_
 refine W.seq ?_
 refine sr ?_
 refine omv ?_
 refine ov vlenS ?_
 refine omv ?_
 refine nq ?_
 refine W.block ?_
 -- LOOP 0
 refine W.pick (S' := [(13, _), (0, _), (1, _), (4, _), (5, _), (12, _)]) [13, 0, 1, 4, 5, 12] rfl ?_
 refine W.loopG (σ := Nat) (fun i => i ≤ k) (fun i => [(13, .int .i64 (i : Nat))]) (fun i => [(b10, .cells [(k, iv .u8 ((List.range i).map (lowB n) ++ List.replicate (k - i) 0)), (k - k, [])] 5)]) [] (fun i => []) (fun i => k - i) 0 rfl cov (Nat.zero_le _) ?_
 rintro i hi
 refine sr ?_
 refine ov (v2 V_lss) ?_
 refine nq ?_
 refine W.seq ?_
 refine W.cond_dec rfl (fun g1 => ?_) (fun g1 => ?_)
 · refine W.skip ?_
   refine WQ.then ?_
   refine W.seq ?_
   refine W.block ?_
   refine sr ?_
   refine omv ?_
   refine oas ?_
   refine nq ?_
   refine W.region ?_
   refine omv ?_
   refine omv ?_
   refine omv ?_
   refine omv ?_
   first | refine ov vmulN ?_ | refine ov vmul ?_
   refine ov (V_shr rfl rfl (by omega)) ?_
   refine ov (vcv .u8) ?_
   first | refine ov viS0 ?_ | refine ov viS0Z ?_
   first | refine ostI ?_ | refine ost ?_
   refine WL.nil ?_
   refine WQ.block_normal ?_
   refine WQ.then ?_
   refine W.region ?_
   first | refine ov vaddN ?_ | refine ov vadd ?_
   refine omv ?_
   refine WL.nil ?_
   rw [lowStep (by omega)]
   exact ag (i + 1) [13, 0, 1, 4, 5, 12] (sc) (by show k - (i + 1) < k - i; omega) rfl cov
 · refine W.exit ?_
   refine WQ.then_exit ?_
   refine WQ.then_exit ?_
   refine WQ.block_hit ?_
   refine WQ.then ?_
   refine sr ?_
   refine omv ?_
   refine oas ?_
   refine nq ?_
   refine W.ret ?_
   refine WQ.ret1 Tryz.results98 (.tmp rfl) ?_
   intro w' hp; obtain rfl : i = k := by omega
   refine ⟨b10, trivial, rfl, ?_⟩; exact hp.cov (.cons (.here (by simp [lowF]) _) (.nil _))

theorem high_calls (n : Int) (k : Nat) (w : World) (hk : k ≤ 8) :
    Calls Tryz.prog 58 [.int .u64 n, .int .i64 k].toArray w fun e w' => ∃ r : Nat, True ∧ e = .returned (.slice (some ⟨r, 0, none⟩) k k) ∧ HP w w' [] [(r, .cells [(k, iv .u8 (highF n k)), (k - k, [])] 5)] := by
 refine calls_of_W Tryz.func58 rfl Tryz.ntmps58 rfl rfl (HP.refl w []) ?_
 refine sr ?_
 refine oas ?_
 refine nx ?_
 refine omv ?_
 refine omv ?_
 refine cg rfl (fun w hp => low_calls _ _ w sc) (fun b7 h7 => ?_)
 refine cg rfl (fun w hp => turned_calls _ _ _ _ w sw sc) (fun b8 h8 => ?_)
 refine oas ?_
 refine nq ?_
 refine W.ret ?_
 refine WQ.ret1 Tryz.results58 (.tmp rfl) ?_
 intro w' hp; exact ⟨_, trivial, rfl, hp.cov cov⟩

end Go.Proofs.YtmeckbjinmgbbaaGreat