/- Strikes: the document's answer: added, taken back. -/
import Derived.Test.YtnpnnafcdnefiaaRStk3
set_option linter.unusedVariables false
set_option linter.unusedSimpArgs false

namespace Go.Proofs.Ytnpnnafcdnefiaa
open Go.X

theorem radd23_calls (K : RK) (D : DS) (R : RS) (hok : DOK D) (hrl : Rl D R) (j : Nat) (g : GR) (hg : g.OK) (hgn : g.rs.length ≤ D.n) (b : Nat) (o : Gr) (S : LS) (hls : LOK S) (ho : GrOK o S.m.length) (hlen : S.m.length ≤ 1000) (a id now : Int) (w : World) (hp0 : HP w w (((K.d, .cells [(1, [.slice (some ⟨K.s, 0, none⟩) R.n R.n]), (1, [.slice (some ⟨K.x, 0, none⟩) R.n R.n]), (1, [.slice (some ⟨K.i, 0, none⟩) R.n R.n]), (1, [.int .i64 R.fuse]), (1, [.bool R.dead])] 130) :: (K.s, .cells [(R.n * 64, iv .u8 R.sure.flatten)] 72) :: (K.x, .cells [(R.n * 64, iv .u8 R.new.flatten)] 72) :: (K.i, .cells [(R.n, bv R.iss), (R.n - R.n, [])] 4) :: (j, .cells [(1, [.pointer (some ⟨K.d, 0, none⟩)]), (1, [.slice (gA g.o) g.rs.length (gC g.o)])] 88) :: (b, .cells [(1, [.pointer (some ⟨j, 0, none⟩)]), (1, [.slice (gA o) S.m.length (gC o)])] 135) :: (gRL 5 31 g ++ rL o S) : List (Nat × Blk)).map (·.1)) ((K.d, .cells [(1, [.slice (some ⟨K.s, 0, none⟩) R.n R.n]), (1, [.slice (some ⟨K.x, 0, none⟩) R.n R.n]), (1, [.slice (some ⟨K.i, 0, none⟩) R.n R.n]), (1, [.int .i64 R.fuse]), (1, [.bool R.dead])] 130) :: (K.s, .cells [(R.n * 64, iv .u8 R.sure.flatten)] 72) :: (K.x, .cells [(R.n * 64, iv .u8 R.new.flatten)] 72) :: (K.i, .cells [(R.n, bv R.iss), (R.n - R.n, [])] 4) :: (j, .cells [(1, [.pointer (some ⟨K.d, 0, none⟩)]), (1, [.slice (gA g.o) g.rs.length (gC g.o)])] 88) :: (b, .cells [(1, [.pointer (some ⟨j, 0, none⟩)]), (1, [.slice (gA o) S.m.length (gC o)])] 135) :: (gRL 5 31 g ++ rL o S) : List (Nat × Blk))) :
    Calls Try.prog 48 [.pointer (some ⟨b, 0, none⟩), .int .i64 a, .int .i64 id, .int .i64 now].toArray w fun e w' => ∃ r : RS × GR × Gr, (Rl (goD D g.rs.length (adQ S a id now)) r.1 ∧ (r.2.1.OK ∧ r.2.1.ll = goL D g.ll (adQ S a id now)) ∧ GrOK r.2.2 (goS D g.rs.length S (adQ S a id now)).m.length) ∧ e = .returned (.int .i64 (goE D g.rs.length (adQ S a id now))) ∧ HP w w' (((K.d, .cells [(1, [.slice (some ⟨K.s, 0, none⟩) R.n R.n]), (1, [.slice (some ⟨K.x, 0, none⟩) R.n R.n]), (1, [.slice (some ⟨K.i, 0, none⟩) R.n R.n]), (1, [.int .i64 R.fuse]), (1, [.bool R.dead])] 130) :: (K.s, .cells [(R.n * 64, iv .u8 R.sure.flatten)] 72) :: (K.x, .cells [(R.n * 64, iv .u8 R.new.flatten)] 72) :: (K.i, .cells [(R.n, bv R.iss), (R.n - R.n, [])] 4) :: (j, .cells [(1, [.pointer (some ⟨K.d, 0, none⟩)]), (1, [.slice (gA g.o) g.rs.length (gC g.o)])] 88) :: (b, .cells [(1, [.pointer (some ⟨j, 0, none⟩)]), (1, [.slice (gA o) S.m.length (gC o)])] 135) :: (gRL 5 31 g ++ rL o S) : List (Nat × Blk)).map (·.1)) ((K.d, .cells [(1, [.slice (some ⟨K.s, 0, none⟩) r.1.n r.1.n]), (1, [.slice (some ⟨K.x, 0, none⟩) r.1.n r.1.n]), (1, [.slice (some ⟨K.i, 0, none⟩) r.1.n r.1.n]), (1, [.int .i64 r.1.fuse]), (1, [.bool r.1.dead])] 130) :: (K.s, .cells [(r.1.n * 64, iv .u8 r.1.sure.flatten)] 72) :: (K.x, .cells [(r.1.n * 64, iv .u8 r.1.new.flatten)] 72) :: (K.i, .cells [(r.1.n, bv r.1.iss), (r.1.n - r.1.n, [])] 4) :: (j, .cells [(1, [.pointer (some ⟨K.d, 0, none⟩)]), (1, [.slice (gA r.2.1.o) r.2.1.rs.length (gC r.2.1.o)])] 88) :: (b, .cells [(1, [.pointer (some ⟨j, 0, none⟩)]), (1, [.slice (gA r.2.2) (goS D g.rs.length S (adQ S a id now)).m.length (gC r.2.2)])] 135) :: (gRL 5 31 r.2.1 ++ rL r.2.2 (goS D g.rs.length S (adQ S a id now))) : List (Nat × Blk)) := by
 have hn1 := hok.n1
 have hn64 := hok.n64
 refine calls_of_W Try.func48 rfl Try.ntmps48 rfl rfl hp0 ?_
 refine sr ?_
 refine oas ?_
 refine nq ?_
 refine W.seq ?_
 refine sr ?_
 refine omv ?_
 refine ov (v2 V_lss) ?_
 refine omv ?_
 refine WL.splitD rfl (fun g1 => ?_) (fun g1 => ?_)
 · refine on rfl (decide_eq_true g1) ?_
   refine on rfl (decide_eq_true g1) ?_
   refine ov (V_pick_td rfl g1 rfl) ?_
   refine omv ?_
   refine on rfl rfl ?_
   refine on rfl rfl ?_
   refine on rfl rfl ?_
   refine ov (V_pick_t rfl rfl rfl) ?_
   refine omv ?_
   refine on rfl rfl ?_
   refine on rfl rfl ?_
   refine on rfl rfl ?_
   refine ov (V_pick_t rfl rfl rfl) ?_
   refine nq ?_
   refine W.cond_true rfl rfl ?_
   refine sr ?_
   refine oas ?_
   refine nq ?_
   refine W.ret ?_
   refine WQ.then_ret ?_
   refine WQ.ret1 Try.results48 (.tmp rfl) ?_
   intro w' hp; rw [adQ_bad (S := S) (by intro h; obtain ⟨h1, h2, h3⟩ := adOK_of h; first | omega | (simp_all; done))]; exact ⟨(R, g, o), ⟨hrl, ⟨hg, rfl⟩, ho⟩, rfl, hp.cov cov⟩
 · refine oy rfl (decide_eq_false g1) ?_
   refine omv ?_
   refine oy rfl (decide_eq_false g1) ?_
   refine ov (v2 V_gtr) ?_
   refine ov (V_pick_fd rfl g1 rfl) ?_
   refine omv ?_
   refine WL.splitD rfl (fun g2 => ?_) (fun g2 => ?_)
   · refine on rfl (decide_eq_true g2) ?_
     refine on rfl (decide_eq_true g2) ?_
     refine on rfl (decide_eq_true g2) ?_
     refine ov (V_pick_td rfl g2 rfl) ?_
     refine omv ?_
     refine on rfl rfl ?_
     refine on rfl rfl ?_
     refine on rfl rfl ?_
     refine ov (V_pick_t rfl rfl rfl) ?_
     refine nq ?_
     refine W.cond_true rfl rfl ?_
     refine sr ?_
     refine oas ?_
     refine nq ?_
     refine W.ret ?_
     refine WQ.then_ret ?_
     refine WQ.ret1 Try.results48 (.tmp rfl) ?_
     intro w' hp; rw [adQ_bad (S := S) (by intro h; obtain ⟨h1, h2, h3⟩ := adOK_of h; first | omega | (simp_all; done))]; exact ⟨(R, g, o), ⟨hrl, ⟨hg, rfl⟩, ho⟩, rfl, hp.cov cov⟩
   · refine oy rfl (decide_eq_false g2) ?_
     refine omv ?_
     refine oy rfl (decide_eq_false g2) ?_
     refine cp rfl (fun w hp => rtime23_calls _ w) ?_
     refine oy rfl (decide_eq_false g2) ?_
     refine ov vnot ?_
     refine ov (V_pick_fd rfl g2 rfl) ?_
     refine omv ?_
     refine WL.split rfl (fun g3 => ?_) (fun g3 => ?_)
     · refine on rfl g3 ?_
       refine on rfl g3 ?_
       refine on rfl g3 ?_
       refine ov (V_pick_t rfl g3 rfl) ?_
       refine nq ?_
       refine W.cond_true rfl rfl ?_
       refine sr ?_
       refine oas ?_
       refine nq ?_
       refine W.ret ?_
       refine WQ.then_ret ?_
       refine WQ.ret1 Try.results48 (.tmp rfl) ?_
       intro w' hp; rw [adQ_bad (S := S) (by intro h; obtain ⟨h1, h2, h3⟩ := adOK_of h; first | omega | (simp_all; done))]; exact ⟨(R, g, o), ⟨hrl, ⟨hg, rfl⟩, ho⟩, rfl, hp.cov cov⟩
     · refine oy rfl g3 ?_
       refine omv ?_
       refine oy rfl g3 ?_
       refine cp rfl (fun w hp => rtime23_calls _ w) ?_
       refine oy rfl g3 ?_
       refine ov vnot ?_
       refine ov (V_pick_f rfl g3 rfl) ?_
       refine nq ?_
       refine W.cond rfl (fun g4 => ?_) (fun g4 => ?_)
       · refine W.seq ?_
         refine W.region ?_
         refine oas ?_
         refine nq ?_
         refine W.ret ?_
         refine WQ.then_ret ?_
         refine WQ.ret1 Try.results48 (.tmp rfl) ?_
         intro w' hp; rw [adQ_bad (S := S) (by intro h; obtain ⟨h1, h2, h3⟩ := adOK_of h; first | omega | (simp_all; done))]; exact ⟨(R, g, o), ⟨hrl, ⟨hg, rfl⟩, ho⟩, rfl, hp.cov cov⟩
       · refine W.skip ?_
         refine WQ.then ?_
         refine W.seq ?_
         refine W.seq ?_
         have hti : tmB id = true := by simpa using g3
         have htn : tmB now = true := by simpa using g4
         have hgo : adOK a id now = true := by simp only [adOK, acB, Bool.and_eq_true, decide_eq_true_eq]; exact ⟨⟨by omega, by omega⟩, hti, htn⟩
         by_cases hq : ∃ s, S.get id = some s
         · obtain ⟨s, hq⟩ := hq
           obtain ⟨q, kb, hat, hk2, hql⟩ := atI_yes hq
           have hsb := hls.get hq
           refine W.region ?_
           refine omv ?_
           refine omv ?_
           refine cgP (ι := Unit) (A := fun _ => True) (V := fun _ => .int .i64 (atI S.m id)) (M := fun _ => ((b, .cells [(1, [.pointer (some ⟨j, 0, none⟩)]), (1, [.slice (gA o) S.m.length (gC o)])] 135) :: rL o S : List (Nat × Blk))) _ rfl (fun w hp => (rat23_calls b j o S ho (by omega) id w (HP.here hp cov)).mono fun e w' ⟨h1, h2⟩ => ⟨(), trivial, h1, h2⟩) (fun _ _ => ?_)
           simp only [List.cons_append, List.nil_append, List.append_nil, List.append_assoc]
           refine WL.back (rL o S) ?_
           simp only [List.cons_append, List.nil_append, List.append_nil, List.append_assoc]
           rw [hat]
           refine ov (v2 V_geq) ?_
           refine nq ?_
           refine W.cond_true rfl (decide_eq_true (by omega)) ?_
           refine sr ?_
           refine oas ?_
           refine nq ?_
           refine W.ret ?_
           refine WQ.then_ret ?_
           refine WQ.ret1 Try.results48 (.tmp rfl) ?_
           intro w' hp; rw [adQ_old hgo hq]; exact ⟨(R, g, o), ⟨hrl, ⟨hg, rfl⟩, ho⟩, rfl, hp.cov cov⟩
         · have hq : S.get id = none := by cases hx : S.get id with | none => rfl | some s => exact absurd ⟨s, hx⟩ hq
           have hat := atI_no hq
           refine W.region ?_
           refine omv ?_
           refine omv ?_
           refine cgP (ι := Unit) (A := fun _ => True) (V := fun _ => .int .i64 (atI S.m id)) (M := fun _ => ((b, .cells [(1, [.pointer (some ⟨j, 0, none⟩)]), (1, [.slice (gA o) S.m.length (gC o)])] 135) :: rL o S : List (Nat × Blk))) _ rfl (fun w hp => (rat23_calls b j o S ho (by omega) id w (HP.here hp cov)).mono fun e w' ⟨h1, h2⟩ => ⟨(), trivial, h1, h2⟩) (fun _ _ => ?_)
           simp only [List.cons_append, List.nil_append, List.append_nil, List.append_assoc]
           refine WL.back (rL o S) ?_
           simp only [List.cons_append, List.nil_append, List.append_nil, List.append_assoc]
           rw [hat]
           refine ov (v2 V_geq) ?_
           refine nq ?_
           refine W.cond_false rfl (by decide) ?_
           refine W.skip ?_
           refine WQ.then ?_
           refine W.seq ?_
           have hrb := recS_bytes (k := 1) (a := a) (id := id) (now := now) ⟨by omega, by omega⟩ ⟨by omega, by omega⟩
           refine W.region ?_
           refine omv ?_
           refine omv ?_
           refine omv ?_
           refine cgG rfl (fun w hp => rrecord23_calls 1 a id now (by omega) (by omega) (tmB_of hti) (tmB_of htn) w) (fun o34 h34 => ?_)
           refine oas ?_
           refine nx ?_
           refine omv ?_
           refine ov vnil ?_
           refine ov (vfa0 0 1) ?_
           refine ov vld ?_
           refine omv ?_
           refine cgP _ rfl (fun w hp => rappend22_calls K D R hok hrl j g hg hgn (gA o34) 10 (gC o34) (recS 1 a id now) hrb (GrOK.cap h34) recS_len.symm w (HP.here hp cov) (fun w1 M h1 => Sr.pastP hp h1 (hs := gLsr h34 recS_len))) (fun r40 h40 => ?_)
           simp only [List.cons_append, List.nil_append, List.append_nil, List.append_assoc]
           refine WL.back (gRL 5 31 r40.2) ?_
           simp only [List.cons_append, List.nil_append, List.append_nil, List.append_assoc]
           refine oas ?_
           refine nq ?_
           refine W.seq ?_
           refine sr ?_
           refine omv ?_
           refine ov (v2 V_eql) ?_
           refine nq ?_
           refine W.cond_dec rfl (fun g5 => ?_) (fun g5 => ?_)
           · refine W.region ?_
             refine omv ?_
             refine omv ?_
             refine cgP _ rfl (fun w hp => rtake23_calls b j o S hls ho hlen (gA o34) 10 (gC o34) (recS 1 a id now) hrb (GrOK.cap h34) recS_len.symm (by omega) w (HP.here hp cov) (fun w1 M h1 => Sr.pastP hp h1 (hs := gLsr h34 recS_len))) (fun r45 h45 => ?_)
             simp only [List.cons_append, List.nil_append, List.append_nil, List.append_assoc]
             refine WL.back (rL r45 (tk S (recS 1 a id now))) ?_
             simp only [List.cons_append, List.nil_append, List.append_nil, List.append_assoc]
             refine nx ?_
             refine omv ?_
             refine oas ?_
             refine nq ?_
             refine W.ret ?_
             refine WQ.ret1 Try.results48 (.tmp rfl) ?_
             intro w' hp; rw [adQ_new hgo hq]; have e0 : apE D g.rs.length (recS 1 a id now) = 0 := (by simpa using g5); refine ⟨(r40.1, r40.2, r45), ⟨h40.1, h40.2, by rw [goS_yes e0]; exact h45⟩, rfl, ?_⟩; rw [goS_yes e0]; exact hp.cov cov
           · refine W.skip ?_
             refine WQ.then ?_
             refine sr ?_
             refine omv ?_
             refine oas ?_
             refine nq ?_
             refine W.ret ?_
             refine WQ.ret1 Try.results48 (.tmp rfl) ?_
             intro w' hp; rw [adQ_new hgo hq]; have e0 : ¬ apE D g.rs.length (recS 1 a id now) = 0 := (by simpa using g5); refine ⟨(r40.1, r40.2, o), ⟨h40.1, h40.2, by rw [goS_no e0]; exact ho⟩, rfl, ?_⟩; rw [goS_no e0]; exact hp.cov cov

theorem rclear23_calls (K : RK) (D : DS) (R : RS) (hok : DOK D) (hrl : Rl D R) (j : Nat) (g : GR) (hg : g.OK) (hgn : g.rs.length ≤ D.n) (b : Nat) (o : Gr) (S : LS) (hls : LOK S) (ho : GrOK o S.m.length) (hlen : S.m.length ≤ 1000) (id now : Int) (w : World) (hp0 : HP w w (((K.d, .cells [(1, [.slice (some ⟨K.s, 0, none⟩) R.n R.n]), (1, [.slice (some ⟨K.x, 0, none⟩) R.n R.n]), (1, [.slice (some ⟨K.i, 0, none⟩) R.n R.n]), (1, [.int .i64 R.fuse]), (1, [.bool R.dead])] 130) :: (K.s, .cells [(R.n * 64, iv .u8 R.sure.flatten)] 72) :: (K.x, .cells [(R.n * 64, iv .u8 R.new.flatten)] 72) :: (K.i, .cells [(R.n, bv R.iss), (R.n - R.n, [])] 4) :: (j, .cells [(1, [.pointer (some ⟨K.d, 0, none⟩)]), (1, [.slice (gA g.o) g.rs.length (gC g.o)])] 88) :: (b, .cells [(1, [.pointer (some ⟨j, 0, none⟩)]), (1, [.slice (gA o) S.m.length (gC o)])] 135) :: (gRL 5 31 g ++ rL o S) : List (Nat × Blk)).map (·.1)) ((K.d, .cells [(1, [.slice (some ⟨K.s, 0, none⟩) R.n R.n]), (1, [.slice (some ⟨K.x, 0, none⟩) R.n R.n]), (1, [.slice (some ⟨K.i, 0, none⟩) R.n R.n]), (1, [.int .i64 R.fuse]), (1, [.bool R.dead])] 130) :: (K.s, .cells [(R.n * 64, iv .u8 R.sure.flatten)] 72) :: (K.x, .cells [(R.n * 64, iv .u8 R.new.flatten)] 72) :: (K.i, .cells [(R.n, bv R.iss), (R.n - R.n, [])] 4) :: (j, .cells [(1, [.pointer (some ⟨K.d, 0, none⟩)]), (1, [.slice (gA g.o) g.rs.length (gC g.o)])] 88) :: (b, .cells [(1, [.pointer (some ⟨j, 0, none⟩)]), (1, [.slice (gA o) S.m.length (gC o)])] 135) :: (gRL 5 31 g ++ rL o S) : List (Nat × Blk))) :
    Calls Try.prog 49 [.pointer (some ⟨b, 0, none⟩), .int .i64 id, .int .i64 now].toArray w fun e w' => ∃ r : RS × GR × Gr, (Rl (goD D g.rs.length (clQ S id now)) r.1 ∧ (r.2.1.OK ∧ r.2.1.ll = goL D g.ll (clQ S id now)) ∧ GrOK r.2.2 (goS D g.rs.length S (clQ S id now)).m.length) ∧ e = .returned (.int .i64 (goE D g.rs.length (clQ S id now))) ∧ HP w w' (((K.d, .cells [(1, [.slice (some ⟨K.s, 0, none⟩) R.n R.n]), (1, [.slice (some ⟨K.x, 0, none⟩) R.n R.n]), (1, [.slice (some ⟨K.i, 0, none⟩) R.n R.n]), (1, [.int .i64 R.fuse]), (1, [.bool R.dead])] 130) :: (K.s, .cells [(R.n * 64, iv .u8 R.sure.flatten)] 72) :: (K.x, .cells [(R.n * 64, iv .u8 R.new.flatten)] 72) :: (K.i, .cells [(R.n, bv R.iss), (R.n - R.n, [])] 4) :: (j, .cells [(1, [.pointer (some ⟨K.d, 0, none⟩)]), (1, [.slice (gA g.o) g.rs.length (gC g.o)])] 88) :: (b, .cells [(1, [.pointer (some ⟨j, 0, none⟩)]), (1, [.slice (gA o) S.m.length (gC o)])] 135) :: (gRL 5 31 g ++ rL o S) : List (Nat × Blk)).map (·.1)) ((K.d, .cells [(1, [.slice (some ⟨K.s, 0, none⟩) r.1.n r.1.n]), (1, [.slice (some ⟨K.x, 0, none⟩) r.1.n r.1.n]), (1, [.slice (some ⟨K.i, 0, none⟩) r.1.n r.1.n]), (1, [.int .i64 r.1.fuse]), (1, [.bool r.1.dead])] 130) :: (K.s, .cells [(r.1.n * 64, iv .u8 r.1.sure.flatten)] 72) :: (K.x, .cells [(r.1.n * 64, iv .u8 r.1.new.flatten)] 72) :: (K.i, .cells [(r.1.n, bv r.1.iss), (r.1.n - r.1.n, [])] 4) :: (j, .cells [(1, [.pointer (some ⟨K.d, 0, none⟩)]), (1, [.slice (gA r.2.1.o) r.2.1.rs.length (gC r.2.1.o)])] 88) :: (b, .cells [(1, [.pointer (some ⟨j, 0, none⟩)]), (1, [.slice (gA r.2.2) (goS D g.rs.length S (clQ S id now)).m.length (gC r.2.2)])] 135) :: (gRL 5 31 r.2.1 ++ rL r.2.2 (goS D g.rs.length S (clQ S id now))) : List (Nat × Blk)) := by
 have hn1 := hok.n1
 have hn64 := hok.n64
 refine calls_of_W Try.func49 rfl Try.ntmps49 rfl rfl hp0 ?_
 refine sr ?_
 refine oas ?_
 refine nq ?_
 refine W.seq ?_
 refine sr ?_
 refine omv ?_
 refine cp rfl (fun w hp => rtime23_calls _ w) ?_
 refine ov vnot ?_
 refine omv ?_
 refine WL.split rfl (fun g1 => ?_) (fun g1 => ?_)
 · refine on rfl g1 ?_
   refine on rfl g1 ?_
   refine on rfl g1 ?_
   refine ov (V_pick_t rfl g1 rfl) ?_
   refine nq ?_
   refine W.cond_true rfl rfl ?_
   refine sr ?_
   refine oas ?_
   refine nq ?_
   refine W.ret ?_
   refine WQ.then_ret ?_
   refine WQ.ret1 Try.results49 (.tmp rfl) ?_
   intro w' hp; rw [clQ_bad (S := S) (by simp_all)]; exact ⟨(R, g, o), ⟨hrl, ⟨hg, rfl⟩, ho⟩, rfl, hp.cov cov⟩
 · refine oy rfl g1 ?_
   refine omv ?_
   refine oy rfl g1 ?_
   refine cp rfl (fun w hp => rtime23_calls _ w) ?_
   refine oy rfl g1 ?_
   refine ov vnot ?_
   refine ov (V_pick_f rfl g1 rfl) ?_
   refine nq ?_
   refine W.cond rfl (fun g2 => ?_) (fun g2 => ?_)
   · refine W.seq ?_
     refine W.region ?_
     refine oas ?_
     refine nq ?_
     refine W.ret ?_
     refine WQ.then_ret ?_
     refine WQ.ret1 Try.results49 (.tmp rfl) ?_
     intro w' hp; rw [clQ_bad (S := S) (by simp_all)]; exact ⟨(R, g, o), ⟨hrl, ⟨hg, rfl⟩, ho⟩, rfl, hp.cov cov⟩
   · refine W.skip ?_
     refine WQ.then ?_
     refine W.seq ?_
     have hti : tmB id = true := by simpa using g1
     have htn : tmB now = true := by simpa using g2
     have hgo0 : (tmB id && tmB now) = true := by rw [hti, htn]; rfl
     by_cases hq : ∃ s, S.get id = some s
     · obtain ⟨s, hq⟩ := hq
       obtain ⟨q, kb, hat, hk2, hql⟩ := atI_yes hq
       have hsb := hls.get hq
       refine W.region ?_
       refine omv ?_
       refine omv ?_
       refine cgP (ι := Unit) (A := fun _ => True) (V := fun _ => .int .i64 (atI S.m id)) (M := fun _ => ((b, .cells [(1, [.pointer (some ⟨j, 0, none⟩)]), (1, [.slice (gA o) S.m.length (gC o)])] 135) :: rL o S : List (Nat × Blk))) _ rfl (fun w hp => (rat23_calls b j o S ho (by omega) id w (HP.here hp cov)).mono fun e w' ⟨h1, h2⟩ => ⟨(), trivial, h1, h2⟩) (fun _ _ => ?_)
       simp only [List.cons_append, List.nil_append, List.append_nil, List.append_assoc]
       refine WL.back (rL o S) ?_
       simp only [List.cons_append, List.nil_append, List.append_nil, List.append_assoc]
       rw [hat]
       refine oas ?_
       refine nq ?_
       refine W.seq ?_
       refine sr ?_
       refine omv ?_
       refine ov (v2 V_lss) ?_
       refine nq ?_
       refine W.cond_false rfl (decide_eq_false (by omega)) ?_
       refine W.skip ?_
       refine WQ.then ?_
       refine W.seq ?_
       refine W.seq ?_
       obtain ⟨gb, gc, grs, hgo, hgc⟩ := GrOK.open ho (by omega)
       refine W.region ?_
       refine omv ?_
       refine ov vnil ?_
       refine ov (vfa0 1 1) ?_
       refine ov vld ?_
       refine omv ?_
       refine ov (viRM (i := q) 4 hgo) ?_
       refine ov (vfa 3 1) ?_
       refine ov (vldRM q 3 hgo ho hk2) ?_
       refine nq ?_
       refine W.cond rfl (fun g3 => ?_) (fun g3 => ?_)
       · refine W.seq ?_
         refine W.region ?_
         refine oas ?_
         refine nq ?_
         refine W.ret ?_
         refine WQ.then_ret ?_
         refine WQ.ret1 Try.results49 (.tmp rfl) ?_
         intro w' hp; rw [clQ_old hgo0 hq (by assumption)]; exact ⟨(R, g, o), ⟨hrl, ⟨hg, rfl⟩, ho⟩, rfl, hp.cov cov⟩
       · refine W.skip ?_
         refine WQ.then ?_
         refine W.seq ?_
         have hrb := recS_bytes (k := 2) (a := s.a) (id := id) (now := now) ⟨by omega, by omega⟩ ⟨by omega, by omega⟩
         refine W.region ?_
         refine omv ?_
         refine ov vnil ?_
         refine ov (vfa0 1 1) ?_
         refine ov vld ?_
         refine omv ?_
         refine ov (viRM (i := q) 4 hgo) ?_
         refine ov (vfa 1 1) ?_
         refine ov (vldRM q 1 hgo ho hk2) ?_
         refine omv ?_
         refine omv ?_
         refine cgG rfl (fun w hp => rrecord23_calls 2 s.a id now (by omega) (by omega) (tmB_of hti) (tmB_of htn) w) (fun o41 h41 => ?_)
         refine oas ?_
         refine nx ?_
         refine omv ?_
         refine ov vnil ?_
         refine ov (vfa0 0 1) ?_
         refine ov vld ?_
         refine omv ?_
         refine cgP _ rfl (fun w hp => rappend22_calls K D R hok hrl j g hg hgn (gA o41) 10 (gC o41) (recS 2 s.a id now) hrb (GrOK.cap h41) recS_len.symm w (HP.here hp cov) (fun w1 M h1 => Sr.pastP hp h1 (hs := gLsr h41 recS_len))) (fun r47 h47 => ?_)
         simp only [List.cons_append, List.nil_append, List.append_nil, List.append_assoc]
         refine WL.back (gRL 5 31 r47.2) ?_
         simp only [List.cons_append, List.nil_append, List.append_nil, List.append_assoc]
         refine oas ?_
         refine nq ?_
         refine W.seq ?_
         refine sr ?_
         refine omv ?_
         refine ov (v2 V_eql) ?_
         refine nq ?_
         refine W.cond_dec rfl (fun g4 => ?_) (fun g4 => ?_)
         · refine W.region ?_
           refine omv ?_
           refine omv ?_
           refine cgP _ rfl (fun w hp => rtake23_calls b j o S hls ho hlen (gA o41) 10 (gC o41) (recS 2 s.a id now) hrb (GrOK.cap h41) recS_len.symm (by omega) w (HP.here hp cov) (fun w1 M h1 => Sr.pastP hp h1 (hs := gLsr h41 recS_len))) (fun r52 h52 => ?_)
           simp only [List.cons_append, List.nil_append, List.append_nil, List.append_assoc]
           refine WL.back (rL r52 (tk S (recS 2 s.a id now))) ?_
           simp only [List.cons_append, List.nil_append, List.append_nil, List.append_assoc]
           refine nx ?_
           refine omv ?_
           refine oas ?_
           refine nq ?_
           refine W.ret ?_
           refine WQ.ret1 Try.results49 (.tmp rfl) ?_
           intro w' hp; rw [clQ_new hgo0 hq (by first | assumption | (intro hx; simp_all; done))]; have e0 : apE D g.rs.length (recS 2 s.a id now) = 0 := (by simpa using g4); refine ⟨(r47.1, r47.2, r52), ⟨h47.1, h47.2, by rw [goS_yes e0]; exact h52⟩, rfl, ?_⟩; rw [goS_yes e0]; exact hp.cov cov
         · refine W.skip ?_
           refine WQ.then ?_
           refine sr ?_
           refine omv ?_
           refine oas ?_
           refine nq ?_
           refine W.ret ?_
           refine WQ.ret1 Try.results49 (.tmp rfl) ?_
           intro w' hp; rw [clQ_new hgo0 hq (by first | assumption | (intro hx; simp_all; done))]; have e0 : ¬ apE D g.rs.length (recS 2 s.a id now) = 0 := (by simpa using g4); refine ⟨(r47.1, r47.2, o), ⟨h47.1, h47.2, by rw [goS_no e0]; exact ho⟩, rfl, ?_⟩; rw [goS_no e0]; exact hp.cov cov
     · have hq : S.get id = none := by cases hx : S.get id with | none => rfl | some s => exact absurd ⟨s, hx⟩ hq
       have hat := atI_no hq
       refine W.region ?_
       refine omv ?_
       refine omv ?_
       refine cgP (ι := Unit) (A := fun _ => True) (V := fun _ => .int .i64 (atI S.m id)) (M := fun _ => ((b, .cells [(1, [.pointer (some ⟨j, 0, none⟩)]), (1, [.slice (gA o) S.m.length (gC o)])] 135) :: rL o S : List (Nat × Blk))) _ rfl (fun w hp => (rat23_calls b j o S ho (by omega) id w (HP.here hp cov)).mono fun e w' ⟨h1, h2⟩ => ⟨(), trivial, h1, h2⟩) (fun _ _ => ?_)
       simp only [List.cons_append, List.nil_append, List.append_nil, List.append_assoc]
       refine WL.back (rL o S) ?_
       simp only [List.cons_append, List.nil_append, List.append_nil, List.append_assoc]
       rw [hat]
       refine oas ?_
       refine nq ?_
       refine W.seq ?_
       refine sr ?_
       refine omv ?_
       refine ov (v2 V_lss) ?_
       refine nq ?_
       refine W.cond_true rfl (by decide) ?_
       refine sr ?_
       refine oas ?_
       refine nq ?_
       refine W.ret ?_
       refine WQ.then_ret ?_
       refine WQ.ret1 Try.results49 (.tmp rfl) ?_
       intro w' hp; rw [clQ_no hgo0 hq]; exact ⟨(R, g, o), ⟨hrl, ⟨hg, rfl⟩, ho⟩, rfl, hp.cov cov⟩

end Go.Proofs.Ytnpnnafcdnefiaa