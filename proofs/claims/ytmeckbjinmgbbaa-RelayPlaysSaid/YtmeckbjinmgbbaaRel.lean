/- A relay: its accounts. -/
import Derived.Test.YtmeckbjinmgbbaaAck
import Derived.Test.YtmeckbjinmgbbaaRef
import Derived.Test.YtmeckbjinmgbbaaStamp4
set_option linter.unusedVariables false
set_option linter.unusedSimpArgs false

namespace Go.Proofs.Ytmeckbjinmgbbaa
open Go.X
/-- Where an account lies. -/
def optV (q : Option Nat) : Value := .pointer (q.map fun p => ⟨p, 0, none⟩)
theorem optV_one {ps : List (Option Nat)} : ∀ v ∈ ps.map optV, Go.X.one v = true := fun v hv => by
  obtain ⟨q, _, rfl⟩ := List.mem_map.1 hv; rfl
/-- The account of a number. -/
def ofP {α : Type} (ps : List (Option α)) (n : Int) : Option α := if 0 ≤ n ∧ n < 8 then (ps[n.toNat]?).getD none else none
theorem ofP_yes {α : Type} {ps : List (Option α)} {n : Int} {p : α} (h : ofP ps n = some p) : (0 ≤ n ∧ n < 8) ∧ ps[n.toNat]? = some (some p) := by
  unfold ofP at h
  split at h
  · rename_i hn
    refine ⟨hn, ?_⟩
    cases h2 : ps[n.toNat]? with
    | none => rw [h2] at h; cases h
    | some q => rw [h2] at h; cases h; rfl
  · cases h
theorem ofP_no {α : Type} {ps : List (Option α)} {n : Int} (h8 : ps.length = 8) (h : ofP ps n = none) : ¬ (0 ≤ n ∧ n < 8) ∨ ((0 ≤ n ∧ n < 8) ∧ ps[n.toNat]? = some none) := by
  unfold ofP at h
  split at h
  · rename_i hn
    refine .inr ⟨hn, ?_⟩
    rw [List.getElem?_eq_getElem (by omega)] at h ⊢
    exact congrArg some h
  · rename_i hn; exact .inl hn
theorem ofP_map {α β : Type} {f : α → β} {ps : List (Option α)} {n : Int} : ofP (ps.map (·.map f)) n = (ofP ps n).map f := by
  unfold ofP
  split
  · rw [List.getElem?_map]; cases ps[n.toNat]? <;> rfl
  · rfl
def relS (R : Nat) (ps : List (Option Nat)) : List Seg := [(1, [.pointer (some ⟨R, 0, none⟩)]), (8, ps.map optV)]
section
variable {c : Cx} {Q : Post} {S : Slots} {L L' : List (Nat × Blk)} {ty T : TypeId} {x : Operand} {R b k : Nat} {ps : List (Option Nat)} {q : Option Nat}
theorem vldRP {o : Nat} (k : Nat) (hq : ps[k]? = some q) (hA : At c L b (relS R ps) := by exact at_) (hx : ev S x = some (.pointer (some ⟨b, o, none⟩)) := by exact rfl) (ho : o = 1 + k := by rfl) (ht : scB c.P T = true := by kernel_rfl) : Val c S L (.load T x) ty (optV q) := by
  refine V_load1 ht hx hA ?_
  subst ho
  unfold relS flat
  simp only [List.flatMap_cons, List.flatMap_nil, List.append_nil]
  rw [List.getElem?_append_right (by simp)]
  simp [hq]
theorem vldRPn {o : Nat} {ps : List Value} {v v0 : Value} (n k : Nat) (hq : ps[k]? = some v) (hA : At c L b [(1, [v0]), (n, ps)] := by exact at_) (hx : ev S x = some (.pointer (some ⟨b, o, none⟩)) := by exact rfl) (ho : o = 1 + k := by rfl) (ht : scB c.P T = true := by kernel_rfl) : Val c S L (.load T x) ty v := by
  refine V_load1 ht hx hA ?_
  subst ho
  unfold flat
  simp only [List.flatMap_cons, List.flatMap_nil, List.append_nil]
  rw [List.getElem?_append_right (by simp)]
  simp [hq]
end

theorem may20_calls (n : Int) (w : World) : Calls Try.prog 46 [.int .i64 n].toArray w fun e w' => e = .returned (.bool (decide (0 ≤ n ∧ n < 8))) ∧ HP w w' [] [] := by
 refine calls_of_W Try.func46 rfl Try.ntmps46 rfl rfl (HP.refl w []) ?_
 refine sr ?_
 refine oas ?_
 refine nx ?_
 refine omv ?_
 refine ov (v2 V_geq) ?_
 refine omv ?_
 refine WL.splitD rfl (fun g1 => ?_) (fun g1 => ?_)
 · refine oy rfl (decide_eq_true g1) ?_
   refine omv ?_
   refine oy rfl (decide_eq_true g1) ?_
   refine ov (v2 V_lss) ?_
   refine ov (V_pick_td rfl g1 rfl) ?_
   refine oas ?_
   refine nq ?_
   refine W.ret ?_
   refine WQ.ret1 Try.results46 (.tmp rfl) ?_
   intro w' hp; exact ⟨congrArg (fun b => Ending.returned (.bool b)) (by rw [Bool.eq_iff_iff]; simp; omega), hp.forget⟩
 · refine on rfl (decide_eq_false g1) ?_
   refine on rfl (decide_eq_false g1) ?_
   refine ov (V_pick_fd rfl g1 rfl) ?_
   refine oas ?_
   refine nq ?_
   refine W.ret ?_
   refine WQ.ret1 Try.results46 (.tmp rfl) ?_
   intro w' hp; exact ⟨congrArg (fun b => Ending.returned (.bool b)) (by rw [Bool.eq_iff_iff]; simp; omega), hp.forget⟩

theorem of20_calls (R b : Nat) (ps : List (Option Nat)) (h8 : ps.length = 8) (n : Int) (p : Nat) (hq : ofP ps n = some p) (w : World) (hR : AtW w b (relS R ps)) :
    Calls Try.prog 40 [.pointer (some ⟨b, 0, none⟩), .int .i64 n].toArray w fun e w' => e = .returned (.tuple #[.pointer (some ⟨p, 0, none⟩), .int .i64 0]) ∧ HP w w' [] [] := by
 obtain ⟨hn, hk⟩ := ofP_yes hq
 refine calls_of_W Try.func40 rfl Try.ntmps40 rfl rfl (HP.refl w []) ?_
 refine sr ?_
 refine oas ?_
 refine oas ?_
 refine nq ?_
 refine W.seq ?_
 refine sr ?_
 refine omv ?_
 refine cp rfl (fun w hp => may20_calls n w) ?_
 refine ov vnot ?_
 refine omv ?_
 refine oy rfl (not_t (decide_eq_true hn)) ?_
 refine omv ?_
 refine oy rfl (not_t (decide_eq_true hn)) ?_
 refine omv ?_
 refine oy rfl (not_t (decide_eq_true hn)) ?_
 refine ov vnil ?_
 refine oy rfl (not_t (decide_eq_true hn)) ?_
 refine ov (vfa0 1 8) ?_
 refine oy rfl (not_t (decide_eq_true hn)) ?_
 first | refine ov (viAP 8) ?_ | refine ov (viAPZ 8) ?_
 refine oy rfl (not_t (decide_eq_true hn)) ?_
 refine ov (vldRP n.toNat hk) ?_
 refine oy rfl (not_t (decide_eq_true hn)) ?_
 refine ov (V_eqlP (by kernel_rfl) rfl rfl) ?_
 refine ov (V_pick_f rfl (not_t (decide_eq_true hn)) rfl) ?_
 refine nq ?_
 refine W.cond_false rfl rfl ?_
 refine W.skip ?_
 refine WQ.then ?_
 refine sr ?_
 refine omv ?_
 refine omv ?_
 refine ov vnil ?_
 refine ov (vfa0 1 8) ?_
 first | refine ov (viAP 8) ?_ | refine ov (viAPZ 8) ?_
 refine ov (vldRP n.toNat hk) ?_
 refine oas ?_
 refine oas ?_
 refine nq ?_
 refine W.ret ?_
 refine WQ.ret2 Try.results40 (.tmp rfl) (.tmp rfl) ?_
 intro w' hp; exact ⟨by first | rfl | (simp; done) | (simp [*]; done) | simp_all, hp.forget⟩

theorem of20_none (R b : Nat) (ps : List (Option Nat)) (h8 : ps.length = 8) (n : Int) (hq : ofP ps n = none) (w : World) (hR : AtW w b (relS R ps)) :
    Calls Try.prog 40 [.pointer (some ⟨b, 0, none⟩), .int .i64 n].toArray w fun e w' => e = .returned (.tuple #[.pointer none, .int .i64 7]) ∧ HP w w' [] [] := by
 refine calls_of_W Try.func40 rfl Try.ntmps40 rfl rfl (HP.refl w []) ?_
 refine sr ?_
 refine oas ?_
 refine oas ?_
 refine nq ?_
 refine W.seq ?_
 refine W.seq ?_
 by_cases hn : 0 ≤ n ∧ n < 8
 · have hk : ps[n.toNat]? = some none := by
     rcases ofP_no h8 hq with h | h
     · exact absurd hn h
     · exact h.2
   refine W.region ?_
   refine omv ?_
   refine cp rfl (fun w hp => may20_calls n w) ?_
   refine ov vnot ?_
   refine omv ?_
   refine oy rfl (not_t (decide_eq_true hn)) ?_
   refine omv ?_
   refine oy rfl (not_t (decide_eq_true hn)) ?_
   refine omv ?_
   refine oy rfl (not_t (decide_eq_true hn)) ?_
   refine ov vnil ?_
   refine oy rfl (not_t (decide_eq_true hn)) ?_
   refine ov (vfa0 1 8) ?_
   refine oy rfl (not_t (decide_eq_true hn)) ?_
   first | refine ov (viAP 8) ?_ | refine ov (viAPZ 8) ?_
   refine oy rfl (not_t (decide_eq_true hn)) ?_
   refine ov (vldRP n.toNat hk) ?_
   refine oy rfl (not_t (decide_eq_true hn)) ?_
   refine ov (V_eqlP (by kernel_rfl) rfl rfl) ?_
   refine ov (V_pick_f rfl (not_t (decide_eq_true hn)) rfl) ?_
   refine nq ?_
   refine W.cond_true rfl rfl ?_
   refine sr ?_
   refine oas ?_
   refine oas ?_
   refine nq ?_
   refine W.ret ?_
   refine WQ.then_ret ?_
   refine WQ.ret2 Try.results40 (.tmp rfl) (.tmp rfl) ?_
   intro w' hp; exact ⟨by first | rfl | (simp; done) | (simp [*]; done) | simp_all, hp.forget⟩
 · refine W.region ?_
   refine omv ?_
   refine cp rfl (fun w hp => may20_calls n w) ?_
   refine ov vnot ?_
   refine omv ?_
   refine on rfl (not_f (decide_eq_false hn)) ?_
   refine on rfl (not_f (decide_eq_false hn)) ?_
   refine on rfl (not_f (decide_eq_false hn)) ?_
   refine on rfl (not_f (decide_eq_false hn)) ?_
   refine on rfl (not_f (decide_eq_false hn)) ?_
   refine on rfl (not_f (decide_eq_false hn)) ?_
   refine on rfl (not_f (decide_eq_false hn)) ?_
   refine ov (V_pick_t rfl (not_f (decide_eq_false hn)) rfl) ?_
   refine nq ?_
   refine W.cond_true rfl rfl ?_
   refine sr ?_
   refine oas ?_
   refine oas ?_
   refine nq ?_
   refine W.ret ?_
   refine WQ.then_ret ?_
   refine WQ.ret2 Try.results40 (.tmp rfl) (.tmp rfl) ?_
   intro w' hp; exact ⟨by first | rfl | (simp; done) | (simp [*]; done) | simp_all, hp.forget⟩

end Go.Proofs.Ytmeckbjinmgbbaa