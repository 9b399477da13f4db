/- Who judges: what is open, told. -/
import Derived.Test.YtmeckbjinmgbbaaMod3
set_option linter.unusedVariables false
set_option linter.unusedSimpArgs false

namespace Go.Proofs.Ytmeckbjinmgbbaa
open Go.X
section
variable {c : Cx} {Q : Post} {S : Slots} {L L' : List (Nat × Blk)} {ops : Array Oper} {ty T : TypeId} {pos : String} {af : Array Edge} {rest : List Oper} {x y : Operand} {v : Value}
theorem ostRL {b q N m : Nat} {l : List RL} {a : RL} (a' : RL) {rs : List Value} {e : TypeId} (j k : Nat) (K : WL c ops Q rest S L') (hf : ∀ x ∈ l, (rlV x).length = 103) (ha : l[j]? = some a) (he : rlV a' = (rlV a).set k v) (h1 : Go.X.one v = true := by rfl) (hx : ev S x = some (.pointer (some ⟨b, q, none⟩)) := by exact rfl) (hy : ev S y = some v := by exact rfl)
    (hk : k < 103 := by omega) (hq : q = j * 103 + k := by omega) (hu : Upd b (.cells [(N, (l.set j a').flatMap rlV), (m, rs)] e) L (.cells [(N, l.flatMap rlV), (m, rs)] e) L' := by exact upd) (ht : szB c.P T 1 = true := by kernel_rfl) : WL c ops Q (⟨none, .store T x y, ty, pos, af, none⟩ :: rest) S L := by
  subst hq
  obtain ⟨hj, _⟩ := List.getElem?_eq_some_iff.1 ha
  have hlt : j * 103 + k < (l.flatMap rlV).length := by
    rw [flatMap_len' hf]
    have : (j + 1) * 103 ≤ l.length * 103 := Nat.mul_le_mul_right _ hj
    rw [Nat.succ_mul] at this; omega
  have hs : flat [(N, (l.set j a').flatMap rlV), (m, rs)] = (flat [(N, l.flatMap rlV), (m, rs)]).set (j * 103 + k) v := by
    simp only [flat_cons]
    rw [List.set_append_left _ _ hlt, flatMap_set' hf ha hk he]
  refine WL.eff (d := none) rfl (E_storeF ht hx hy h1 hu (by rw [flat_cons, List.length_append]; omega) (fun hfi => ?_) hs) fun u M ⟨_, hM⟩ => by subst hM; exact K
  obtain ⟨e1, e2⟩ := hfi.cons
  refine Fit.mk ?_ e2
  rw [← flatMap_set' hf ha hk he, List.length_set]; exact e1
end
def QI (rs cs : List RL) (i : Nat) : Prop := cs.map (·.1) = (rs.take i).map (·.1) ∧ ∀ r ∈ cs, ROK r
theorem QI.len {rs cs : List RL} {i : Nat} (h : QI rs cs i) (hi : i ≤ rs.length) : cs.length = i := by
  have := congrArg List.length h.1
  simpa [Nat.min_eq_left hi] using this
theorem ROK.at {a : AR} {o o' : Gr} (h : ROK (a, o)) (h' : GrOK o' a.tl.length) : ROK (a, o') := by
  obtain ⟨⟨h1, h2, h3, h4, h5, h6, h7, h8⟩, hb, hg⟩ := h
  refine ⟨⟨h1, h2, h3, h4, h5, h6, h7, ?_⟩, hb, h'⟩
  cases o' with
  | none => exact Nat.le_of_eq h'
  | some q => exact h'
theorem QI.snoc {rs cs : List RL} {i : Nat} {r : RL} {o' : Gr} (h : QI rs cs i) (hr : rs[i]? = some r) (hk : ROK r) (h' : GrOK o' r.1.tl.length) : QI rs (cs ++ [(r.1, o')]) (i + 1) := by
  obtain ⟨hj, he⟩ := List.getElem?_eq_some_iff.1 hr
  refine ⟨?_, fun x hx => ?_⟩
  · rw [List.take_succ_eq_append_getElem hj, List.map_append, List.map_append, h.1, he]; rfl
  · rcases List.mem_append.1 hx with h1 | h1
    · exact h.2 x h1
    · rw [List.mem_singleton.1 h1]; exact ROK.at (a := r.1) (o := r.2) hk h'
theorem qset {rs cs : List RL} {i : Nat} {r : RL} {o' : Gr} (h : cs.length = i) (hr : rs[i]? = some r) : (cs ++ rs.drop i).set i (r.1, o') = (cs ++ [(r.1, o')]) ++ rs.drop (i + 1) := by
  subst h
  obtain ⟨hj, he⟩ := List.getElem?_eq_some_iff.1 hr
  rw [List.set_append_right _ _ (Nat.le_refl _), Nat.sub_self, List.drop_eq_getElem_cons hj, List.set_cons_zero, List.append_assoc]; rfl
theorem qat {rs cs : List RL} {i : Nat} {r : RL} (h : cs.length = i) (hr : rs[i]? = some r) : (cs ++ rs.drop i)[i]? = some r := by
  subst h
  rw [List.getElem?_append_right (Nat.le_refl _), Nat.sub_self, List.getElem?_drop]; simpa using hr
theorem qok {rs cs : List RL} {i : Nat} (h : QI rs cs i) (hrs : ∀ r ∈ rs, ROK r) : ∀ x ∈ cs ++ rs.drop i, ROK x := fun x hx => by
  rcases List.mem_append.1 hx with h1 | h1
  · exact h.2 x h1
  · exact hrs x (List.mem_of_mem_drop h1)
theorem rlV_o {a : AR} {o o' : Gr} : rlV (a, o') = (rlV (a, o)).set 2 (.slice (gA o') a.tl.length (gC o')) := rfl
theorem rB_250 {r : RepS} (h : rB r = true) : (r.tn : Int) ≤ 250 := by
  unfold rB at h; simp only [Bool.and_eq_true, decide_eq_true_eq] at h; exact h.2

theorem queue24_some (M R b jm : Nat) (tk : List Nat) (o : Gr) (rs : List RL) (hg : GrOK o rs.length) (hrs : RsOK rs) (w : World) (hA : AtW w M (modS R b o rs.length jm tk)) (hs : SrW w 103 (gA o) rs.length (rs.flatMap rlV)) (ht : ∀ r ∈ rs, SrW w 1 (gA r.2) r.1.tl.length (iv .u8 r.1.tl)) (h0 : 0 < rs.length) :
    Calls Try.prog 35 [.pointer (some ⟨M, 0, none⟩)].toArray w fun e w' => ∃ q : Gr × List RL, (GrOK q.1 q.2.length ∧ RsOK q.2 ∧ q.2.map (·.1) = rs.map (·.1)) ∧ e = .returned (.slice (gA q.1) rs.length (gC q.1)) ∧ HP w w' [] (gLM 103 q.1 rs.length (q.2.flatMap rlV) 151 ++ q.2.flatMap rbL) := by
 unfold modS at hA
 have hl8 := hrs.2
 refine calls_of_W Try.func35 rfl Try.ntmps35 rfl rfl (HP.refl w []) ?_
 refine sr ?_
 refine oas ?_
 refine nx ?_
 refine omv ?_
 refine ov vnil ?_
 refine ov (vfa0 2 1) ?_
 refine ov vld ?_
 refine cg rfl (fun w hp => clone24_calls o rs hg hrs w (hs.old0 w hp)) (fun b9 h9 => ?_)
 refine oas ?_
 refine nq ?_
 refine W.seq ?_
 refine W.seq ?_
 obtain ⟨gb, gc, grs, rfl, hgc⟩ := gr_open24 h9 h0
 simp only [gLM, List.cons_append, List.nil_append]
 have h103 := rls_len hrs.1
 refine W.region ?_
 refine omv ?_
 refine ov vlenS ?_
 refine omv ?_
 refine nq ?_
 refine W.block ?_
 -- LOOP 0
 refine W.pick (S' := [(12, _), (0, _), (2, _), (3, _), (11, _)]) [12, 0, 2, 3, 11] rfl ?_
 refine W.loopG (σ := Nat × List RL) (fun ⟨i, cs⟩ => i ≤ rs.length ∧ QI rs cs i) (fun ⟨i, cs⟩ => [(12, .int .i64 (i : Nat))]) (fun ⟨i, cs⟩ => [(gb, .cells [(rs.length * 103, (cs ++ rs.drop i).flatMap rlV), ((gc - rs.length) * 103, grs)] 151)]) [] (fun ⟨i, cs⟩ => cs.flatMap rbL) (fun ⟨i, cs⟩ => rs.length - i) (0, []) rfl cov ⟨Nat.zero_le _, rfl, fun r hr => (List.not_mem_nil hr).elim⟩ ?_
 rintro ⟨i, cs⟩ ⟨hi, hq⟩; dsimp only at hi hq ⊢
 refine sr ?_
 refine ov (v2 V_lss) ?_
 refine nq ?_
 refine W.seq ?_
 refine W.cond_dec rfl (fun g1 => ?_) (fun g1 => ?_)
 · refine W.skip ?_
   refine WQ.then ?_
   refine W.seq ?_
   refine W.block ?_
   refine sr ?_
   refine omv ?_
   refine oas ?_
   refine nq ?_
   obtain ⟨r, hr⟩ : ∃ r, rs[i]? = some r := ⟨_, List.getElem?_eq_getElem (by omega)⟩
   have hm := List.mem_of_getElem? hr
   have hrk := hrs.1 r hm
   have hcl := hq.len hi
   have hq250 := rB_250 hrk.b
   have hok := qok hq hrs.1
   refine W.region ?_
   refine omv ?_
   refine omv ?_
   refine omv ?_
   refine omv ?_
   refine ov (viO 103) ?_
   refine ov (vfa 2 1) ?_
   refine ov (vldOs' (v := .slice (gA r.2) r.1.tl.length (gC r.2)) 103 i 2 (fun x hx => rlV_len (hok x hx)) (fun w hp => HP.sown hp (b := gb) (by repeat (first | exact List.Mem.head _ | apply List.Mem.tail)) rlV_one |>.mul) (qat hcl hr)) ?_
   refine cgG rfl (fun w hp => clone_calls _ _ _ r.1.tl w ((ht r hm).old0 w hp) (by have : (r.1.tl.length : Int) ≤ 250 := hq250; omega)) (fun o22 h22 => ?_)
   refine ov (viO 103) ?_
   refine ov (vfa 2 1) ?_
   refine ostRL (a := r) (r.1, o22) i 2 ?_ (fun x hx => rlV_len (hok x hx)) (qat hcl hr) (rlV_o (o := r.2))
   refine WL.nil ?_
   refine WQ.block_normal ?_
   refine WQ.then ?_
   refine W.region ?_
   first | refine ov vaddN ?_ | refine ov vadd ?_
   refine omv ?_
   refine WL.nil ?_
   rw [qset hcl hr]
   exact ag ((i + 1, cs ++ [(r.1, o22)])) [12, 0, 2, 3, 11] (by (try dsimp only); exact ⟨by omega, hq.snoc hr hrk h22⟩) (by (try dsimp only); omega) rfl (by dsimp only; rw [rbs_snoc]; exact cov)
 · refine W.exit ?_
   refine WQ.then_exit ?_
   refine WQ.then_exit ?_
   refine WQ.block_hit ?_
   refine WQ.then ?_
   refine sr ?_
   refine omv ?_
   refine oas ?_
   refine nq ?_
   refine W.ret ?_
   refine WQ.ret1 Try.results35 (.tmp rfl) ?_
   intro w' hp; obtain rfl : i = rs.length := by omega
   rw [List.drop_of_length_le (Nat.le_refl _), List.append_nil] at hp
   have hcl := hq.len hi
   exact ⟨(some (gb, gc, grs), cs), ⟨by show cs.length ≤ gc; omega, ⟨hq.2, by show cs.length ≤ 8; omega⟩, by rw [hq.1, List.take_length]⟩, rfl, by simp only [gLM, List.cons_append, List.nil_append]; exact hp.cov cov⟩

theorem queue24_nil (M R b jm : Nat) (tk : List Nat) (o : Gr) (rs : List RL) (hg : GrOK o rs.length) (hrs : RsOK rs) (w : World) (hA : AtW w M (modS R b o rs.length jm tk)) (hs : SrW w 103 (gA o) rs.length (rs.flatMap rlV)) (h0 : rs.length = 0) :
    Calls Try.prog 35 [.pointer (some ⟨M, 0, none⟩)].toArray w fun e w' => ∃ q : Gr × List RL, (GrOK q.1 q.2.length ∧ RsOK q.2 ∧ q.2.map (·.1) = rs.map (·.1)) ∧ e = .returned (.slice (gA q.1) rs.length (gC q.1)) ∧ HP w w' [] (gLM 103 q.1 rs.length (q.2.flatMap rlV) 151 ++ q.2.flatMap rbL) := by
 unfold modS at hA
 have hl8 := hrs.2
 refine calls_of_W Try.func35 rfl Try.ntmps35 rfl rfl (HP.refl w []) ?_
 refine sr ?_
 refine oas ?_
 refine nx ?_
 refine omv ?_
 refine ov vnil ?_
 refine ov (vfa0 2 1) ?_
 refine ov vld ?_
 refine cg rfl (fun w hp => clone24_calls o rs hg hrs w (hs.old0 w hp)) (fun b9 h9 => ?_)
 refine oas ?_
 refine nq ?_
 refine W.seq ?_
 refine sr ?_
 refine omv ?_
 refine ov vlenS ?_
 refine omv ?_
 refine nq ?_
 refine W.block ?_
 -- LOOP 0
 refine W.pick (S' := [(12, _), (0, _), (2, _), (3, _), (11, _)]) [12, 0, 2, 3, 11] rfl ?_
 refine W.loopG (σ := Nat) (fun i => i = 0) (fun i => [(12, .int .i64 (i : Nat))]) (fun i => []) [] (fun i => gLM 103 b9 rs.length (rs.flatMap rlV) 151) (fun i => 0) 0 rfl cov rfl ?_
 rintro i hi
 refine sr ?_
 refine ov (v2 V_lss) ?_
 refine nq ?_
 refine W.seq ?_
 refine W.cond_false rfl (decide_eq_false (by omega)) ?_
 refine W.exit ?_
 refine WQ.then_exit ?_
 refine WQ.then_exit ?_
 refine WQ.block_hit ?_
 refine WQ.then ?_
 refine sr ?_
 refine omv ?_
 refine oas ?_
 refine nq ?_
 refine W.ret ?_
 refine WQ.ret1 Try.results35 (.tmp rfl) ?_
 intro w' hp; have e0 : rs = [] := List.length_eq_zero_iff.1 h0
 exact ⟨(b9, []), ⟨by simpa [e0] using h9, ⟨fun r hr => (List.not_mem_nil hr).elim, by simp⟩, by rw [e0]⟩, rfl, hp.cov (by simp only [e0]; exact cov)⟩

theorem queue24_calls (M R b jm : Nat) (tk : List Nat) (o : Gr) (rs : List RL) (hg : GrOK o rs.length) (hrs : RsOK rs) (w : World) (hA : AtW w M (modS R b o rs.length jm tk)) (hs : SrW w 103 (gA o) rs.length (rs.flatMap rlV)) (ht : ∀ r ∈ rs, SrW w 1 (gA r.2) r.1.tl.length (iv .u8 r.1.tl)) :
    Calls Try.prog 35 [.pointer (some ⟨M, 0, none⟩)].toArray w fun e w' => ∃ q : Gr × List RL, (GrOK q.1 q.2.length ∧ RsOK q.2 ∧ q.2.map (·.1) = rs.map (·.1)) ∧ e = .returned (.slice (gA q.1) rs.length (gC q.1)) ∧ HP w w' [] (gLM 103 q.1 rs.length (q.2.flatMap rlV) 151 ++ q.2.flatMap rbL) :=
  if h0 : rs.length = 0 then queue24_nil M R b jm tk o rs hg hrs w hA hs h0 else queue24_some M R b jm tk o rs hg hrs w hA hs ht (by omega)

end Go.Proofs.Ytmeckbjinmgbbaa