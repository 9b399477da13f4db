/- Strikes: the document's answer: added, taken back, told, counted. -/
import Derived.Test.YtnpnnafcdnefiaaRStk2
set_option linter.unusedVariables false
set_option linter.unusedSimpArgs false

namespace Go.Proofs.Ytnpnnafcdnefiaa
open Go.X
theorem atI_no {m : List (KEnt Stk)} {i : Int} (h : kget m i = none) : atI m i = -1 := by unfold atI; rw [kidx_none h]; rfl
theorem atI_yes {m : List (KEnt Stk)} {i : Int} {s : Stk} (h : kget m i = some s) : ∃ (q b : Nat), atI m i = q ∧ m[q]? = some (i, s, b) ∧ q < m.length := by
  obtain ⟨q, b, h1, h2, _⟩ := kidx_some (s' := s) (ck := 0) h
  exact ⟨q, b, by unfold atI; rw [h1]; rfl, h2, (List.getElem?_eq_some_iff.1 h2).1⟩
theorem gLsr {c : Cx} {L L' : List (Nat × Blk)} {o : Gr} {n : Nat} {l : List Int} {T : TypeId} (ho : GrOK o n) (hn : l.length = n) (hd : DelL (gL o n (iv .u8 l) T) L L' := by exact dell) : Sr c L 1 (gA o) n (iv .u8 l) := fun w hp => HP.sgr hp hd (by rw [iv_len]; exact hn) ho iv_one
theorem cnt_take {m : List (KEnt Stk)} {a now : Int} {i : Nat} {e : KEnt Stk} (h : m[i]? = some e) : cnt (m.take (i + 1)) a now = cnt (m.take i) a now + if cnB a now e.2.1 = true then 1 else 0 := by
  obtain ⟨h1, h2⟩ := List.getElem?_eq_some_iff.1 h
  rw [List.take_succ_eq_append_getElem h1, h2, cnt_snoc]
theorem cnt_tle {m : List (KEnt Stk)} {a now : Int} {i : Nat} (h : i ≤ m.length) : cnt (m.take i) a now ≤ i := by
  have := cnt_le (m := m.take i) (a := a) (now := now)
  rw [List.length_take] at this; omega

theorem rof23_calls (b j : Nat) (o : Gr) (S : LS) (hls : LOK S) (ho : GrOK o S.m.length) (hlen : S.m.length ≤ 1000) (id : Int) (w : World) (hp0 : HP w w (((b, .cells [(1, [.pointer (some ⟨j, 0, none⟩)]), (1, [.slice (gA o) S.m.length (gC o)])] 135) :: rL o S : List (Nat × Blk)).map (·.1)) ((b, .cells [(1, [.pointer (some ⟨j, 0, none⟩)]), (1, [.slice (gA o) S.m.length (gC o)])] 135) :: rL o S : List (Nat × Blk))) :
    Calls Try.prog 50 [.pointer (some ⟨b, 0, none⟩), .int .i64 id].toArray w fun e w' => e = .returned (.tuple #[.int .i64 (ofS S id).a, .bool (ofS S id).c, .bool (S.get id).isSome]) ∧ HP w w' (((b, .cells [(1, [.pointer (some ⟨j, 0, none⟩)]), (1, [.slice (gA o) S.m.length (gC o)])] 135) :: rL o S : List (Nat × Blk)).map (·.1)) ((b, .cells [(1, [.pointer (some ⟨j, 0, none⟩)]), (1, [.slice (gA o) S.m.length (gC o)])] 135) :: rL o S : List (Nat × Blk)) := by
 refine calls_of_W Try.func50 rfl Try.ntmps50 rfl rfl hp0 ?_
 refine sr ?_
 refine oas ?_
 refine oas ?_
 refine oas ?_
 refine nq ?_
 refine W.seq ?_
 by_cases hq : ∃ s, S.get id = some s
 · obtain ⟨s, hq⟩ := hq
   obtain ⟨q, kb, hat, hk2, hql⟩ := atI_yes hq
   refine W.region ?_
   refine omv ?_
   refine omv ?_
   refine cgP (ι := Unit) (A := fun _ => True) (V := fun _ => .int .i64 (atI S.m id)) (M := fun _ => ((b, .cells [(1, [.pointer (some ⟨j, 0, none⟩)]), (1, [.slice (gA o) S.m.length (gC o)])] 135) :: rL o S : List (Nat × Blk))) _ rfl (fun w hp => (rat23_calls b j o S ho (by omega) id w (HP.here hp cov)).mono fun e w' ⟨h1, h2⟩ => ⟨(), trivial, h1, h2⟩) (fun _ _ => ?_)
   simp only [List.cons_append, List.nil_append, List.append_nil, List.append_assoc]
   refine WL.back (rL o S) ?_
   simp only [List.cons_append, List.nil_append, List.append_nil, List.append_assoc]
   rw [hat]
   refine oas ?_
   refine nq ?_
   refine W.seq ?_
   refine sr ?_
   refine omv ?_
   refine ov (v2 V_lss) ?_
   refine nq ?_
   refine W.cond_false rfl (decide_eq_false (by omega)) ?_
   refine W.skip ?_
   refine WQ.then ?_
   refine W.seq ?_
   obtain ⟨gb, gc, grs, hgo, hgc⟩ := GrOK.open ho (by omega)
   refine dr (.q 0 (.q 1 (.q 2 (.q 3 (.q 4 (.q 5 (.q 6 (.q 7 (.q 8 (.q 9 (.q 10 (.q 11 (.q 12 (.q 13 (.q 14 (.q 15 (.q 16 (.q 17 (.q 18 (.done)))))))))))))))))))) ((b, _) :: rL o S) ?_
   refine dq rfl (V_move rfl) ?_
   refine dq rfl vnil ?_
   refine dq rfl (vfa0 1 1) ?_
   refine dq rfl vld ?_
   refine dq rfl (V_move rfl) ?_
   refine dq rfl (viRM (i := q) 4 hgo) ?_
   refine dq rfl (vfa 1 1) ?_
   refine dq rfl (vldRM q 1 hgo ho hk2) ?_
   refine dq rfl (V_move rfl) ?_
   refine dq rfl vnil ?_
   refine dq rfl (vfa0 1 1) ?_
   refine dq rfl vld ?_
   refine dq rfl (V_move rfl) ?_
   refine dq rfl (viRM (i := q) 4 hgo) ?_
   refine dq rfl (vfa 3 1) ?_
   refine dq rfl (vldRM q 3 hgo ho hk2) ?_
   refine dq rfl (V_assign rfl) ?_
   refine dq rfl (V_assign rfl) ?_
   refine dq rfl (V_assign rfl) ?_
   refine WD.done ?_
   refine WQ.then ?_
   refine W.ret ?_
   refine WQ.ret3 Try.results50 (.tmp rfl) (.tmp rfl) (.tmp rfl) ?_
   intro w' hp; obtain ⟨f1, f2⟩ := ofS_some hq; exact ⟨by rw [f1, f2], hp.cov cov⟩
 · have hq : S.get id = none := by cases hx : S.get id with | none => rfl | some s => exact absurd ⟨s, hx⟩ hq
   have hat := atI_no hq
   refine W.region ?_
   refine omv ?_
   refine omv ?_
   refine cgP (ι := Unit) (A := fun _ => True) (V := fun _ => .int .i64 (atI S.m id)) (M := fun _ => ((b, .cells [(1, [.pointer (some ⟨j, 0, none⟩)]), (1, [.slice (gA o) S.m.length (gC o)])] 135) :: rL o S : List (Nat × Blk))) _ rfl (fun w hp => (rat23_calls b j o S ho (by omega) id w (HP.here hp cov)).mono fun e w' ⟨h1, h2⟩ => ⟨(), trivial, h1, h2⟩) (fun _ _ => ?_)
   simp only [List.cons_append, List.nil_append, List.append_nil, List.append_assoc]
   refine WL.back (rL o S) ?_
   simp only [List.cons_append, List.nil_append, List.append_nil, List.append_assoc]
   rw [hat]
   refine oas ?_
   refine nq ?_
   refine W.seq ?_
   refine sr ?_
   refine omv ?_
   refine ov (v2 V_lss) ?_
   refine nq ?_
   refine W.cond_true rfl (by decide) ?_
   refine sr ?_
   refine oas ?_
   refine oas ?_
   refine oas ?_
   refine nq ?_
   refine W.ret ?_
   refine WQ.then_ret ?_
   refine WQ.ret3 Try.results50 (.tmp rfl) (.tmp rfl) (.tmp rfl) ?_
   intro w' hp; obtain ⟨f1, f2⟩ := ofS_none hq; exact ⟨by rw [f1, f2], hp.cov cov⟩

theorem rcount23_calls (b j : Nat) (o : Gr) (S : LS) (hls : LOK S) (ho : GrOK o S.m.length) (hlen : S.m.length ≤ 1000) (a now : Int) (hnow : -9223372036854775808 ≤ now ∧ now ≤ 9223372036854775807) (w : World) (hp0 : HP w w (((b, .cells [(1, [.pointer (some ⟨j, 0, none⟩)]), (1, [.slice (gA o) S.m.length (gC o)])] 135) :: rL o S : List (Nat × Blk)).map (·.1)) ((b, .cells [(1, [.pointer (some ⟨j, 0, none⟩)]), (1, [.slice (gA o) S.m.length (gC o)])] 135) :: rL o S : List (Nat × Blk))) :
    Calls Try.prog 51 [.pointer (some ⟨b, 0, none⟩), .int .i64 a, .int .i64 now].toArray w fun e w' => e = .returned (.int .i64 (cnt S.m a now : Nat)) ∧ HP w w' (((b, .cells [(1, [.pointer (some ⟨j, 0, none⟩)]), (1, [.slice (gA o) S.m.length (gC o)])] 135) :: rL o S : List (Nat × Blk)).map (·.1)) ((b, .cells [(1, [.pointer (some ⟨j, 0, none⟩)]), (1, [.slice (gA o) S.m.length (gC o)])] 135) :: rL o S : List (Nat × Blk)) := by
 refine calls_of_W Try.func51 rfl Try.ntmps51 rfl rfl hp0 ?_
 refine sr ?_
 refine oas ?_
 refine nx ?_
 refine oas ?_
 refine nq ?_
 refine W.seq ?_
 refine sr ?_
 refine oas ?_
 refine nq ?_
 refine W.block ?_
 -- LOOP 0
 refine W.pick (S' := [(7, _), (8, _), (0, _), (1, _), (2, _), (6, _)]) [7, 8, 0, 1, 2, 6] rfl ?_
 refine W.loopG (σ := Nat) (fun i => i ≤ S.m.length) (fun i => [(7, .int .i64 (cnt (S.m.take i) a now : Nat)), (8, .int .i64 (i : Nat))]) (fun i => []) [(b, _)] (fun i => rL o S) (fun i => S.m.length - i) 0 rfl cov (Nat.zero_le _) ?_
 rintro i hi
 refine W.seq ?_
 refine sr ?_
 refine omv ?_
 refine omv ?_
 refine ov vnil ?_
 refine ov (vfa0 1 1) ?_
 refine ov vld ?_
 refine ov vlenS ?_
 refine ov (v2 V_lss) ?_
 refine nq ?_
 refine W.cond_dec rfl (fun g1 => ?_) (fun g1 => ?_)
 · refine W.skip ?_
   refine WQ.then ?_
   refine W.seq ?_
   refine W.block ?_
   refine W.seq ?_
   obtain ⟨gb, gc, grs, hgo, hgc⟩ := GrOK.open ho (by omega)
   obtain ⟨e, he⟩ : ∃ e, S.m[i]? = some e := ⟨_, List.getElem?_eq_getElem (by omega)⟩
   have hee := hls.e e (List.mem_of_getElem? he)
   have hct := cnt_tle (m := S.m) (a := a) (now := now) hi
   refine W.region ?_
   refine omv ?_
   refine ov vnil ?_
   refine ov (vfa0 1 1) ?_
   refine ov vld ?_
   refine omv ?_
   refine ov (viRM (i := i) 4 hgo) ?_
   refine ov (vldRMA i hgo ho he) ?_
   refine oal [(1, [.int .i64 0]), (1, [.int .i64 0]), (1, [.int .i64 0]), (1, [.bool false])] (fun b9 => ?_)
   refine osta 4 ?_
   refine nx ?_
   refine ov (vfa0 1 1) ?_
   refine ov vld ?_
   refine omv ?_
   refine ov (v2 V_eql) ?_
   refine omv ?_
   refine WL.splitD rfl (fun g2 => ?_) (fun g2 => ?_)
   · refine oy rfl (decide_eq_true g2) ?_
     refine ov (vfa0 3 1) ?_
     refine oy rfl (decide_eq_true g2) ?_
     refine ov vld ?_
     refine oy rfl (decide_eq_true g2) ?_
     refine ov vnot ?_
     refine ov (V_pick_td rfl g2 rfl) ?_
     refine omv ?_
     refine WL.split rfl (fun g3 => ?_) (fun g3 => ?_)
     · refine oy rfl g3 ?_
       refine ov (vfa0 2 1) ?_
       refine oy rfl g3 ?_
       refine ov vld ?_
       refine oy rfl g3 ?_
       refine omv ?_
       refine oy rfl g3 ?_
       refine ov (v2 V_leq) ?_
       refine ov (V_pick_t rfl g3 rfl) ?_
       refine omv ?_
       refine WL.splitD rfl (fun g4 => ?_) (fun g4 => ?_)
       · refine oy rfl (decide_eq_true g4) ?_
         refine ov (vfa0 2 1) ?_
         refine oy rfl (decide_eq_true g4) ?_
         refine ov vld ?_
         refine oy rfl (decide_eq_true g4) ?_
         refine omv ?_
         refine oy rfl (decide_eq_true g4) ?_
         first | refine ov vsubN ?_ | refine ov vsub ?_
         refine oy rfl (decide_eq_true g4) ?_
         refine ov (v2 V_geq) ?_
         refine ov (V_pick_td rfl g4 rfl) ?_
         refine nq ?_
         refine W.cond_dec rfl (fun g5 => ?_) (fun g5 => ?_)
         · refine W.region ?_
           refine omv ?_
           first | refine ov vaddN ?_ | refine ov vadd ?_
           refine oas ?_
           refine WL.nil ?_
           refine WQ.block_normal ?_
           refine WQ.then ?_
           refine W.region ?_
           refine omv ?_
           first | refine ov vaddN ?_ | refine ov vadd ?_
           refine oas ?_
           refine WL.nil ?_
           rw [show ((cnt (S.m.take i) a now : Nat) : Int) + 1 = ((cnt (S.m.take (i + 1)) a now : Nat) : Int) from by rw [cnt_take he, if_pos (by simp [cnB, *]; omega)]; rfl]
           exact ag (i + 1) [7, 8, 0, 1, 2, 6] (sc) (by (try dsimp only); omega) rfl cov
         · refine W.skip ?_
           refine WQ.block_normal ?_
           refine WQ.then ?_
           refine W.region ?_
           refine omv ?_
           first | refine ov vaddN ?_ | refine ov vadd ?_
           refine oas ?_
           refine WL.nil ?_
           rw [show (cnt (S.m.take i) a now : Nat) = cnt (S.m.take (i + 1)) a now from by rw [cnt_take he, if_neg (by simp [cnB, *]; omega), Nat.add_zero]]
           exact ag (i + 1) [7, 8, 0, 1, 2, 6] (sc) (by (try dsimp only); omega) rfl cov
       · refine on rfl (decide_eq_false g4) ?_
         refine on rfl (decide_eq_false g4) ?_
         refine on rfl (decide_eq_false g4) ?_
         refine on rfl (decide_eq_false g4) ?_
         refine on rfl (decide_eq_false g4) ?_
         refine ov (V_pick_fd rfl g4 rfl) ?_
         refine nq ?_
         refine W.cond_false rfl rfl ?_
         refine W.skip ?_
         refine WQ.block_normal ?_
         refine WQ.then ?_
         refine W.region ?_
         refine omv ?_
         first | refine ov vaddN ?_ | refine ov vadd ?_
         refine oas ?_
         refine WL.nil ?_
         rw [show (cnt (S.m.take i) a now : Nat) = cnt (S.m.take (i + 1)) a now from by rw [cnt_take he, if_neg (by simp [cnB, *]), Nat.add_zero]]
         exact ag (i + 1) [7, 8, 0, 1, 2, 6] (sc) (by (try dsimp only); omega) rfl cov
     · refine on rfl g3 ?_
       refine on rfl g3 ?_
       refine on rfl g3 ?_
       refine on rfl g3 ?_
       refine ov (V_pick_f rfl g3 rfl) ?_
       refine omv ?_
       refine on rfl rfl ?_
       refine on rfl rfl ?_
       refine on rfl rfl ?_
       refine on rfl rfl ?_
       refine on rfl rfl ?_
       refine ov (V_pick_f rfl rfl rfl) ?_
       refine nq ?_
       refine W.cond_false rfl rfl ?_
       refine W.skip ?_
       refine WQ.block_normal ?_
       refine WQ.then ?_
       refine W.region ?_
       refine omv ?_
       first | refine ov vaddN ?_ | refine ov vadd ?_
       refine oas ?_
       refine WL.nil ?_
       rw [show (cnt (S.m.take i) a now : Nat) = cnt (S.m.take (i + 1)) a now from by rw [cnt_take he, if_neg (by simp [cnB, *]), Nat.add_zero]]
       exact ag (i + 1) [7, 8, 0, 1, 2, 6] (sc) (by (try dsimp only); omega) rfl cov
   · refine on rfl (decide_eq_false g2) ?_
     refine on rfl (decide_eq_false g2) ?_
     refine on rfl (decide_eq_false g2) ?_
     refine ov (V_pick_fd rfl g2 rfl) ?_
     refine omv ?_
     refine on rfl rfl ?_
     refine on rfl rfl ?_
     refine on rfl rfl ?_
     refine on rfl rfl ?_
     refine ov (V_pick_f rfl rfl rfl) ?_
     refine omv ?_
     refine on rfl rfl ?_
     refine on rfl rfl ?_
     refine on rfl rfl ?_
     refine on rfl rfl ?_
     refine on rfl rfl ?_
     refine ov (V_pick_f rfl rfl rfl) ?_
     refine nq ?_
     refine W.cond_false rfl rfl ?_
     refine W.skip ?_
     refine WQ.block_normal ?_
     refine WQ.then ?_
     refine W.region ?_
     refine omv ?_
     first | refine ov vaddN ?_ | refine ov vadd ?_
     refine oas ?_
     refine WL.nil ?_
     rw [show (cnt (S.m.take i) a now : Nat) = cnt (S.m.take (i + 1)) a now from by rw [cnt_take he, if_neg (by simp [cnB, *]), Nat.add_zero]]
     exact ag (i + 1) [7, 8, 0, 1, 2, 6] (sc) (by (try dsimp only); omega) rfl cov
 · refine W.exit ?_
   refine WQ.then_exit ?_
   refine WQ.then_exit ?_
   refine WQ.block_hit ?_
   refine WQ.then ?_
   refine sr ?_
   refine omv ?_
   refine oas ?_
   refine nq ?_
   refine W.ret ?_
   refine WQ.ret1 Try.results51 (.tmp rfl) ?_
   intro w' hp; obtain rfl : i = S.m.length := by omega
   rw [List.take_length] at *; exact ⟨rfl, hp.cov cov⟩

theorem rsusp23_calls (b j : Nat) (o : Gr) (S : LS) (hls : LOK S) (ho : GrOK o S.m.length) (hlen : S.m.length ≤ 1000) (a now : Int) (hnow : -9223372036854775808 ≤ now ∧ now ≤ 9223372036854775807) (w : World) (hp0 : HP w w (((b, .cells [(1, [.pointer (some ⟨j, 0, none⟩)]), (1, [.slice (gA o) S.m.length (gC o)])] 135) :: rL o S : List (Nat × Blk)).map (·.1)) ((b, .cells [(1, [.pointer (some ⟨j, 0, none⟩)]), (1, [.slice (gA o) S.m.length (gC o)])] 135) :: rL o S : List (Nat × Blk))) :
    Calls Try.prog 52 [.pointer (some ⟨b, 0, none⟩), .int .i64 a, .int .i64 now].toArray w fun e w' => e = .returned (.bool (decide (3 ≤ cnt S.m a now))) ∧ HP w w' (((b, .cells [(1, [.pointer (some ⟨j, 0, none⟩)]), (1, [.slice (gA o) S.m.length (gC o)])] 135) :: rL o S : List (Nat × Blk)).map (·.1)) ((b, .cells [(1, [.pointer (some ⟨j, 0, none⟩)]), (1, [.slice (gA o) S.m.length (gC o)])] 135) :: rL o S : List (Nat × Blk)) := by
 refine calls_of_W Try.func52 rfl Try.ntmps52 rfl rfl hp0 ?_
 refine sr ?_
 refine oas ?_
 refine nx ?_
 refine omv ?_
 refine omv ?_
 refine omv ?_
 refine cgP (ι := Unit) (A := fun _ => True) (V := fun _ => .int .i64 (cnt S.m a now : Nat)) (M := fun _ => ((b, .cells [(1, [.pointer (some ⟨j, 0, none⟩)]), (1, [.slice (gA o) S.m.length (gC o)])] 135) :: rL o S : List (Nat × Blk))) _ rfl (fun w hp => (rcount23_calls b j o S hls ho hlen a now hnow w (HP.here hp cov)).mono fun e w' ⟨h1, h2⟩ => ⟨(), trivial, h1, h2⟩) (fun _ _ => ?_)
 simp only [List.cons_append, List.nil_append, List.append_nil, List.append_assoc]
 refine WL.back (rL o S) ?_
 simp only [List.cons_append, List.nil_append, List.append_nil, List.append_assoc]
 refine ov (v2 V_geq) ?_
 refine oas ?_
 refine nq ?_
 refine W.ret ?_
 refine WQ.ret1 Try.results52 (.tmp rfl) ?_
 intro w' hp; exact ⟨by simp; omega, hp.cov cov⟩

theorem rsopen23_calls (K : RK) (j : Nat) (g : GR) (hg : g.OK) (hgn : g.rs.length ≤ 64) (hgl : ∀ r ∈ g.rs, r.n ≤ 59) (w : World) (hp0 : HP w w (((j, .cells [(1, [.pointer (some ⟨K.d, 0, none⟩)]), (1, [.slice (gA g.o) g.rs.length (gC g.o)])] 88) :: gRL 5 31 g : List (Nat × Blk)).map (·.1)) ((j, .cells [(1, [.pointer (some ⟨K.d, 0, none⟩)]), (1, [.slice (gA g.o) g.rs.length (gC g.o)])] 88) :: gRL 5 31 g : List (Nat × Blk))) :
    Calls Try.prog 47 [.pointer (some ⟨j, 0, none⟩)].toArray w fun e w' => ∃ r : Nat × Gr, GrOK r.2 (opS g.ll).m.length ∧ e = .returned (.pointer (some ⟨r.1, 0, none⟩)) ∧ HP w w' (((j, .cells [(1, [.pointer (some ⟨K.d, 0, none⟩)]), (1, [.slice (gA g.o) g.rs.length (gC g.o)])] 88) :: gRL 5 31 g : List (Nat × Blk)).map (·.1)) ((j, .cells [(1, [.pointer (some ⟨K.d, 0, none⟩)]), (1, [.slice (gA g.o) g.rs.length (gC g.o)])] 88) :: (r.1, .cells [(1, [.pointer (some ⟨j, 0, none⟩)]), (1, [.slice (gA r.2) (opS g.ll).m.length (gC r.2)])] 135) :: (gRL 5 31 g ++ rL r.2 (opS g.ll))) := by
 refine calls_of_W Try.func47 rfl Try.ntmps47 rfl rfl hp0 ?_
 refine sr ?_
 refine oas ?_
 refine nx ?_
 refine omv ?_
 refine ov (V_build (by kernel_rfl) (zi (zs := [(1, [.pointer none]), (1, [.slice none 0 0])])) (.one (k := 0) rfl rfl (by kernel_rfl) rfl (.nil _))) ?_
 refine obxa (fun b7 => ?_)
 refine oas ?_
 refine nq ?_
 refine W.seq ?_
 refine sr ?_
 refine oas ?_
 refine nq ?_
 refine W.block ?_
 -- LOOP 0
 refine W.pick (S' := [(4, _), (0, _), (2, _), (3, _)]) [4, 0, 2, 3] rfl ?_
 refine W.loopG (σ := Nat × Gr) (fun ⟨i, o⟩ => i ≤ g.rs.length ∧ GrOK o (opS (g.ll.take i)).m.length) (fun ⟨i, o⟩ => [(4, .int .i64 (i : Nat))]) (fun ⟨i, o⟩ => [(b7, .cells [(1, [.pointer (some ⟨j, 0, none⟩)]), (1, [.slice (gA o) (opS (g.ll.take i)).m.length (gC o)])] 135), (j, .cells [(1, [.pointer (some ⟨K.d, 0, none⟩)]), (1, [.slice (gA g.o) g.rs.length (gC g.o)])] 88)]) [] (fun ⟨i, o⟩ => gRL 5 31 g ++ rL o (opS (g.ll.take i))) (fun ⟨i, o⟩ => g.rs.length - i) (0, none) rfl cov ⟨Nat.zero_le _, rfl⟩ ?_
 rintro ⟨i, o⟩ ⟨hi, ho⟩; dsimp only at hi ho ⊢
 refine W.seq ?_
 refine sr ?_
 refine omv ?_
 refine omv ?_
 refine ov vnil ?_
 refine ov (vfa0 1 1) ?_
 refine ov vld ?_
 refine ov vlenS ?_
 refine ov (v2 V_lss) ?_
 refine nq ?_
 refine W.cond_dec rfl (fun g1 => ?_) (fun g1 => ?_)
 · refine W.skip ?_
   refine WQ.then ?_
   refine W.seq ?_
   refine W.block ?_
   obtain ⟨gb, gc, grs, hgo, hgc⟩ := GrOK.open hg.1 (by omega)
   obtain ⟨rv, hrv⟩ : ∃ rv, g.rs[i]? = some rv := ⟨_, List.getElem?_eq_getElem (by omega)⟩
   have hrm := List.mem_of_getElem? hrv
   have hrn := hgl rv hrm
   have hrl : g.ll.getD i [] = rv.l := by unfold GR.ll; rw [List.getD_eq_getElem?_getD, List.getElem?_map, hrv]; rfl
   have hrk := hg.2 rv hrm
   have hom : (opS (g.ll.take i)).m.length ≤ 1000 := by
     have := opS_m (ll := g.ll.take i)
     have h2 := List.length_take_le i g.ll
     omega
   refine W.region ?_
   refine omv ?_
   refine omv ?_
   refine ov vnil ?_
   refine ov (vfa0 1 1) ?_
   refine ov vld ?_
   refine omv ?_
   refine ov (viR hgo) ?_
   refine ov (vldR hgo hrv hg) ?_
   refine cgP _ rfl (fun w hp => rtake23_calls b7 j o (opS (g.ll.take i)) (opS_ok (take_bytes (GR.lbytes hg))) ho hom (some ⟨rv.b, 0, none⟩) rv.n rv.cap rv.l hrk.2.2 hrk.2.1 hrk.1.symm (by omega) w (HP.here hp cov) (fun w1 M h1 => Sr.pastP hp h1 (hs := fun w hp => GR.row hp hrm))) (fun r25 h25 => ?_)
   simp only [List.cons_append, List.nil_append, List.append_nil, List.append_assoc]
   refine WL.back (rL r25 (tk (opS (g.ll.take i)) rv.l)) ?_
   simp only [List.cons_append, List.nil_append, List.append_nil, List.append_assoc]
   rw [← hrl] at h25 ⊢
   refine WL.nil ?_
   refine WQ.block_normal ?_
   refine WQ.then ?_
   refine W.region ?_
   refine omv ?_
   first | refine ov vaddN ?_ | refine ov vadd ?_
   refine oas ?_
   refine WL.nil ?_
   rw [← opS_snoc, snoc_take rfl (by rw [GR.ll_len]; omega)] at h25 ⊢
   exact ag (i + 1, r25) [4, 0, 2, 3] (by (try dsimp only); exact ⟨by omega, h25⟩) (by (try dsimp only); omega) rfl cov
 · refine W.exit ?_
   refine WQ.then_exit ?_
   refine WQ.then_exit ?_
   refine WQ.block_hit ?_
   refine WQ.then ?_
   refine sr ?_
   refine omv ?_
   refine oas ?_
   refine nq ?_
   refine W.ret ?_
   refine WQ.ret1 Try.results47 (.tmp rfl) ?_
   intro w' hp; obtain rfl : i = g.rs.length := by omega
   rw [show g.ll.take g.rs.length = g.ll from List.take_of_length_le (by rw [GR.ll_len]; omega)] at hp ho; exact ⟨(b7, o), ho, rfl, hp.cov cov⟩

end Go.Proofs.Ytnpnnafcdnefiaa