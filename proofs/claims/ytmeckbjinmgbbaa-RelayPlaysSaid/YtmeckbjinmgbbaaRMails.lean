/- Layer 20: what waits, on both sides. -/
import Derived.Test.YtmeckbjinmgbbaaRW2
set_option linter.unusedVariables false
set_option linter.unusedSimpArgs false

namespace Go.Proofs.Ytmeckbjinmgbbaa
open Go.X
/-- A slice of mails, to be read. -/
def MlsAt (w : World) (o : Gr) (ms : List ML) : Prop := SrW w 138 (gA o) ms.length (ms.flatMap mlV) ∧ ∀ m ∈ ms, SrW w 1 (gA m.2) m.1.l.length (iv .u8 m.1.l)
theorem MlsAt.of {w0 w : World} {O : List Nat} {L : List (Nat × Blk)} {o : Gr} {ms : List ML} {t : TypeId} (hp : HP w0 w O L) (ho : GrOK o ms.length) (hms : ∀ m ∈ ms, MOK m) (h1 : ∀ p ∈ gLM 138 o ms.length (ms.flatMap mlV) t ++ ms.flatMap mbL, p ∈ L) : MlsAt w o ms := by
  refine ⟨?_, fun m hm => ?_⟩
  · cases o with
    | none =>
      have h0 : ms.length = 0 := ho
      have h2 : ms = [] := List.length_eq_zero_iff.1 h0
      subst h2; exact SrW.nil
    | some q =>
      have h2 := h1 (q.1, .cells [(ms.length * 138, ms.flatMap mlV), ((q.2.1 - ms.length) * 138, q.2.2)] t) (List.mem_append_left _ List.mem_cons_self)
      exact (HP.sown hp (b := q.1) h2 mlV_one).mul
  · obtain ⟨a, g⟩ := m
    have hk := hms _ hm
    cases g with
    | none =>
      have h0 : a.l.length = 0 := hk.2
      have h2 : a.l = [] := List.length_eq_zero_iff.1 h0
      dsimp only; rw [h2]; exact SrW.nil
    | some q =>
      have h2 := h1 (q.1, .cells [(a.l.length, iv .u8 a.l), (q.2.1 - a.l.length, q.2.2)] 5) (List.mem_append_right _ (mbS_mem hm _ (by unfold mbL gL; exact List.mem_cons_self)))
      exact HP.sown hp (b := q.1) h2 iv_one
section
variable {c : Cx} {S : Slots} {L : List (Nat × Blk)} {ty T : TypeId} {x : Operand} {v : Value}
theorem mlV_eq {m : ML} : mlV m = [.int .i64 m.1.id] ++ (flat (enV (mlE m)) ++ flat (stV m.1.s)) := by simp [mlV, mlS, flat]
theorem vmE {o : Gr} {ms : List ML} {m : ML} {b cc q : Nat} {rs : List Value} (j : Nat) (hgo : o = some (b, cc, rs)) (hms : ∀ m ∈ ms, MOK m) (hm : ms[j]? = some m) (hs : Sr c L 138 (gA o) ms.length (ms.flatMap mlV)) {ds : List Seg} (hd : flat ds = flat (enV (mlE m)))
    (ht : agB c.P T 69 = true := by kernel_rfl) (hx : ev S x = some (.pointer (some ⟨b, q, none⟩)) := by exact rfl) (hq : q = 0 + (j * 138 + 1) := by omega) : Val c S L (.load T x) ty (AG ds) := by
  subst hgo
  have hk := hms m (List.mem_of_getElem? hm)
  have hl : (flat (enV (mlE m))).length = 69 := by simp [enV, flat, iv_len, mlE, EnvS.at, hk.1.c, hk.1.p]
  exact vldOPs' 138 j 1 69 (fun m hm => mlV_len (hms m hm)) hs hm (by
    rw [hd, mlV_eq, List.drop_append_of_le_length (by simp), List.drop_of_length_le (by simp), List.nil_append, List.take_append_of_le_length (by omega), List.take_of_length_le (by omega)]) (by decide) ht hx hq
theorem vmS {o : Gr} {ms : List ML} {m : ML} {b cc q : Nat} {rs : List Value} (j : Nat) (hgo : o = some (b, cc, rs)) (hms : ∀ m ∈ ms, MOK m) (hm : ms[j]? = some m) (hs : Sr c L 138 (gA o) ms.length (ms.flatMap mlV)) {ds : List Seg} (hd : flat ds = flat (stV m.1.s))
    (ht : agB c.P T 68 = true := by kernel_rfl) (hx : ev S x = some (.pointer (some ⟨b, q, none⟩)) := by exact rfl) (hq : q = 0 + (j * 138 + 70) := by omega) : Val c S L (.load T x) ty (AG ds) := by
  subst hgo
  have hk := hms m (List.mem_of_getElem? hm)
  have hl : (flat (enV (mlE m))).length = 69 := by simp [enV, flat, iv_len, mlE, EnvS.at, hk.1.c, hk.1.p]
  have hl2 : (flat (stV m.1.s)).length = 68 := by simp [stV, flat, iv_len, hk.1.sc, hk.1.st]
  exact vldOPs' 138 j 70 68 (fun m hm => mlV_len (hms m hm)) hs hm (by
    rw [hd, mlV_eq, ← List.append_assoc, List.drop_append_of_le_length (by simp [hl]), List.drop_of_length_le (by simp [hl]), List.nil_append, List.take_of_length_le (by omega)]) (by decide) ht hx hq
theorem vmI {o : Gr} {ms : List ML} {m : ML} {b cc q : Nat} {rs : List Value} (j : Nat) (hgo : o = some (b, cc, rs)) (hms : ∀ m ∈ ms, MOK m) (hm : ms[j]? = some m) (hs : Sr c L 138 (gA o) ms.length (ms.flatMap mlV))
    (ht : scB c.P T = true := by kernel_rfl) (hx : ev S x = some (.pointer (some ⟨b, q, none⟩)) := by exact rfl) (hq : q = 0 + (j * 138 + 0) := by omega) : Val c S L (.load T x) ty (.int .i64 m.1.id) := by
  subst hgo
  exact vldOs' 138 j 0 (fun m hm => mlV_len (hms m hm)) hs hm ht hx (by decide) hq rfl
end
theorem mls_at {ms1 ms2 : List ML} {i : Nat} {m1 : ML} (h : ms1.map (·.1) = ms2.map (·.1)) (h1 : ms1[i]? = some m1) : ∃ g2 : Gr, ms2[i]? = some (m1.1, g2) := by
  have e := congrArg (fun x => x[i]?) h
  simp only [List.getElem?_map, h1, Option.map_some] at e
  cases h2 : ms2[i]? with
  | none => rw [h2] at e; cases e
  | some m2 =>
    rw [h2] at e
    simp only [Option.map_some] at e
    injection e with e
    exact ⟨m2.2, by rw [e]⟩

theorem lmails_calls (o1 o2 : Gr) (ms1 ms2 : List ML) (hok1 : MsOK ms1) (hg1 : GrOK o1 ms1.length) (hok2 : MsOK ms2) (hg2 : GrOK o2 ms2.length) (hmm : ms1.map (·.1) = ms2.map (·.1)) (w : World) (hat1 : MlsAt w o1 ms1) (hat2 : MlsAt w o2 ms2) :
    Calls Try.prog 29 [.slice (gA o1) ms1.length (gC o1), .slice (gA o2) ms2.length (gC o2)].toArray w fun e w' => e = .returned (.bool true) ∧ HP w w' [] [] := by
 have hl8 := hok1.2
 have hll : ms1.length = ms2.length := by simpa using congrArg List.length hmm
 refine calls_of_W Try.func29 rfl Try.ntmps29 rfl rfl (HP.refl w []) ?_
 refine sr ?_
 refine oas ?_
 refine nq ?_
 refine W.seq ?_
 refine sr ?_
 refine omv ?_
 refine ov vlenS ?_
 refine omv ?_
 refine ov vlenS ?_
 refine ov (v2 V_neq) ?_
 refine nq ?_
 refine W.cond_false rfl (by simp [hll]) ?_
 refine W.skip ?_
 refine WQ.then ?_
 refine W.seq ?_
 refine sr ?_
 refine oas ?_
 refine nq ?_
 refine W.block ?_
 -- LOOP 0
 refine W.pick (S' := [(5, _), (0, _), (1, _), (4, _), (11, _)]) [5, 0, 1, 4, 11] rfl ?_
 refine W.loopG (σ := Nat) (fun i => i ≤ ms1.length) (fun i => [(5, .int .i64 (i : Nat))]) (fun i => []) [] (fun i => []) (fun i => ms1.length - i) 0 rfl cov (Nat.zero_le _) ?_
 rintro i hi
 refine W.seq ?_
 refine sr ?_
 refine omv ?_
 refine omv ?_
 refine ov vlenS ?_
 refine ov (v2 V_lss) ?_
 refine nq ?_
 refine W.cond_dec rfl (fun g1 => ?_) (fun g1 => ?_)
 · refine W.skip ?_
   refine WQ.then ?_
   refine W.seq ?_
   refine W.block ?_
   refine W.seq ?_
   obtain ⟨gb, gc, grs, hgo, hgc⟩ := gr_open hg1 (by omega)
   obtain ⟨m, hm⟩ : ∃ m, ms1[i]? = some m := ⟨_, List.getElem?_eq_getElem (by omega)⟩
   obtain ⟨g2, hm2⟩ := mls_at hmm hm
   obtain ⟨gb2, gc2, grs2, hgo2, hgc2⟩ := gr_open hg2 (by omega)
   have hk1 := hok1.1 m (List.mem_of_getElem? hm)
   have hk2 := hok2.1 _ (List.mem_of_getElem? hm2)
   have hsc := hk1.1.sc
   have hst := hk1.1.st
   refine dr (.q 0 (.q 1 (.q 2 (.q 3 (.q 4 (.q 5 (.q 6 (.q 7 (.q 8 (.q 9 (.l 10 (.q 11 (.done))))))))))))) [] ?_
   refine dq rfl (V_move rfl) ?_
   refine dq rfl (V_move rfl) ?_
   refine dq rfl (viGM 138 hgo) ?_
   refine dq rfl (vfa 1 69) ?_
   refine dq rfl (vmE i hgo hok1.1 hm (fun w hp => hat1.1.old0 w hp) (ds := enV (mlE m)) rfl) ?_
   refine dq rfl (V_move rfl) ?_
   refine dq rfl (V_move rfl) ?_
   refine dq rfl (viGM 138 hgo2) ?_
   refine dq rfl (vfa 1 69) ?_
   refine dq rfl (vmE i hgo2 hok2.1 hm2 (fun w hp => hat2.1.old0 w hp) (ds := enV { mlE m with body := .slice (gA g2) m.1.l.length (gC g2) }) rfl) ?_
   refine WD.l ?_
   refine dcp rfl rfl (fun w hp => same12_calls (mlE m) (gA m.2) m.1.l.length (gC m.2) m.1.l hk1.en (gA g2) (gC g2) w (hat1.2 m (List.mem_of_getElem? hm) |>.old0 w hp) (hat2.2 _ (List.mem_of_getElem? hm2) |>.old0 w hp)) ?_
   refine dq rfl (V_assign rfl) ?_
   refine WD.done ?_
   refine WQ.then ?_
   refine W.seq ?_
   refine dr (.q 0 (.q 1 (.q 2 (.q 3 (.q 4 (.q 5 (.q 6 (.q 7 (.q 8 (.q 9 (.q 10 (.q 11 (.q 12 (.q 13 (.q 14 (.q 15 (.q 16 (.q 17 (.q 18 (.q 19 (.q 20 (.q 21 (.q 22 (.q 23 (.q 24 (.q 25 (.q 26 (.q 27 (.done))))))))))))))))))))))))))))) [] ?_
   refine dq rfl (V_move rfl) ?_
   refine dq rfl vnot ?_
   refine dq rfl (V_move rfl) ?_
   refine dy rfl rfl rfl (V_move rfl) ?_
   refine dy rfl rfl rfl (V_move rfl) ?_
   refine dy rfl rfl rfl (viGM 138 hgo) ?_
   refine dy rfl rfl rfl (vfa 0 1) ?_
   refine dy rfl rfl rfl (vmI i hgo hok1.1 hm (fun w hp => hat1.1.old0 w hp)) ?_
   refine dy rfl rfl rfl (V_move rfl) ?_
   refine dy rfl rfl rfl (V_move rfl) ?_
   refine dy rfl rfl rfl (viGM 138 hgo2) ?_
   refine dy rfl rfl rfl (vfa 0 1) ?_
   refine dy rfl rfl rfl (vmI i hgo2 hok2.1 hm2 (fun w hp => hat2.1.old0 w hp)) ?_
   refine dy rfl rfl rfl (v2 V_neq) ?_
   refine dq rfl (V_pick_f rfl rfl rfl) ?_
   refine dq rfl (V_move rfl) ?_
   refine dy rfl rfl (by simp) (V_move rfl) ?_
   refine dy rfl rfl (by simp) (V_move rfl) ?_
   refine dy rfl rfl (by simp) (viGM 138 hgo) ?_
   refine dy rfl rfl (by simp) (vfa 70 68) ?_
   refine dy rfl rfl (by simp) (vmS i hgo hok1.1 hm (fun w hp => hat1.1.old0 w hp) (ds := [(1, [.int .i64 m.1.s.epoch]), (1, [.int .i64 m.1.s.fr]), (1, [.int .i64 m.1.s.to]), (1, [.int .i64 m.1.s.time]), (32, iv .u8 m.1.s.commit), (32, iv .u8 m.1.s.tag)]) rfl) ?_
   refine dy rfl rfl (by simp) (V_move rfl) ?_
   refine dy rfl rfl (by simp) (V_move rfl) ?_
   refine dy rfl rfl (by simp) (viGM 138 hgo2) ?_
   refine dy rfl rfl (by simp) (vfa 70 68) ?_
   refine dy rfl rfl (by simp) (vmS i hgo2 hok2.1 hm2 (fun w hp => hat2.1.old0 w hp) (ds := [(1, [.int .i64 m.1.s.epoch]), (1, [.int .i64 m.1.s.fr]), (1, [.int .i64 m.1.s.to]), (1, [.int .i64 m.1.s.time]), (32, iv .u8 m.1.s.commit), (32, iv .u8 m.1.s.tag)]) rfl) ?_
   refine dy rfl rfl (by simp) (vneA [(1, 5), (1, 5), (1, 5), (1, 5), (32, 6), (32, 6)]) ?_
   refine dq rfl (V_pick_f rfl (by simp) rfl) ?_
   refine WD.done ?_
   refine WQ.then ?_
   refine W.cond_false rfl (by simp) ?_
   refine W.skip ?_
   refine WQ.block_normal ?_
   refine WQ.then ?_
   refine W.region ?_
   refine omv ?_
   first | refine ov vaddN ?_ | refine ov vadd ?_
   refine oas ?_
   refine WL.nil ?_
   exact ag (i + 1) [5, 0, 1, 4, 11] (by (try dsimp only); exact (by omega)) (by (try dsimp only); omega) rfl cov
 · refine W.exit ?_
   refine WQ.then_exit ?_
   refine WQ.then_exit ?_
   refine WQ.block_hit ?_
   refine WQ.then ?_
   refine sr ?_
   refine oas ?_
   refine nq ?_
   refine W.ret ?_
   refine WQ.ret1 Try.results29 (.tmp rfl) ?_
   intro w' hp; exact ⟨by first | rfl | (simp; done) | (simp [*]; done) | simp_all, hp.forget⟩

end Go.Proofs.Ytmeckbjinmgbbaa