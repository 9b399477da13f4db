/- The journal: the document's answer: a record more. -/
import Derived.Test.YtnpnnafcdnefiaaJour7
set_option linter.unusedVariables false
set_option linter.unusedSimpArgs false

namespace Go.Proofs.Ytnpnnafcdnefiaa
open Go.X
theorem gRL_snoc {b cap : Nat} {rs : List Value} {g : List RowB} {r : RowB} {T E : TypeId} : gRL T E ⟨some (b, cap, rs), g ++ [r]⟩ = (b, .cells [((g ++ [r]).length, (g ++ [r]).map RowB.v), (cap - (g ++ [r]).length, rs)] E) :: (g.map (RowB.blk T) ++ [r.blk T]) := by
  simp [gRL, gL]

theorem rappend22_calls (K : RK) (D : DS) (R : RS) (hok : DOK D) (hrl : Rl D R) (j : Nat) (g : GR) (hg : g.OK) (hgn : g.rs.length ≤ D.n) (A : Option Addr) (n cap : Nat) (b : List Int) (hbb : bytes b) (hn : n ≤ cap) (hbl : n = b.length) (w : World) (hp0 : HP w w (((K.d, .cells [(1, [.slice (some ⟨K.s, 0, none⟩) R.n R.n]), (1, [.slice (some ⟨K.x, 0, none⟩) R.n R.n]), (1, [.slice (some ⟨K.i, 0, none⟩) R.n R.n]), (1, [.int .i64 R.fuse]), (1, [.bool R.dead])] 130) :: (K.s, .cells [(R.n * 64, iv .u8 R.sure.flatten)] 72) :: (K.x, .cells [(R.n * 64, iv .u8 R.new.flatten)] 72) :: (K.i, .cells [(R.n, bv R.iss), (R.n - R.n, [])] 4) :: (j, .cells [(1, [.pointer (some ⟨K.d, 0, none⟩)]), (1, [.slice (gA g.o) g.rs.length (gC g.o)])] 88) :: gRL 5 31 g : List (Nat × Blk)).map (·.1)) ((K.d, .cells [(1, [.slice (some ⟨K.s, 0, none⟩) R.n R.n]), (1, [.slice (some ⟨K.x, 0, none⟩) R.n R.n]), (1, [.slice (some ⟨K.i, 0, none⟩) R.n R.n]), (1, [.int .i64 R.fuse]), (1, [.bool R.dead])] 130) :: (K.s, .cells [(R.n * 64, iv .u8 R.sure.flatten)] 72) :: (K.x, .cells [(R.n * 64, iv .u8 R.new.flatten)] 72) :: (K.i, .cells [(R.n, bv R.iss), (R.n - R.n, [])] 4) :: (j, .cells [(1, [.pointer (some ⟨K.d, 0, none⟩)]), (1, [.slice (gA g.o) g.rs.length (gC g.o)])] 88) :: gRL 5 31 g : List (Nat × Blk))) (hb : ∀ w' M, HP w w' (((K.d, .cells [(1, [.slice (some ⟨K.s, 0, none⟩) R.n R.n]), (1, [.slice (some ⟨K.x, 0, none⟩) R.n R.n]), (1, [.slice (some ⟨K.i, 0, none⟩) R.n R.n]), (1, [.int .i64 R.fuse]), (1, [.bool R.dead])] 130) :: (K.s, .cells [(R.n * 64, iv .u8 R.sure.flatten)] 72) :: (K.x, .cells [(R.n * 64, iv .u8 R.new.flatten)] 72) :: (K.i, .cells [(R.n, bv R.iss), (R.n - R.n, [])] 4) :: (j, .cells [(1, [.pointer (some ⟨K.d, 0, none⟩)]), (1, [.slice (gA g.o) g.rs.length (gC g.o)])] 88) :: gRL 5 31 g : List (Nat × Blk)).map (·.1)) M → SrW w' 1 A n (iv .u8 b)) :
    Calls Try.prog 46 [.pointer (some ⟨j, 0, none⟩), .slice A n cap].toArray w fun e w' => ∃ r : RS × GR, (Rl (apD D g.rs.length b) r.1 ∧ r.2.OK ∧ r.2.ll = apL D g.ll b) ∧ e = .returned (.int .i64 (apE D g.rs.length b)) ∧ HP w w' (((K.d, .cells [(1, [.slice (some ⟨K.s, 0, none⟩) R.n R.n]), (1, [.slice (some ⟨K.x, 0, none⟩) R.n R.n]), (1, [.slice (some ⟨K.i, 0, none⟩) R.n R.n]), (1, [.int .i64 R.fuse]), (1, [.bool R.dead])] 130) :: (K.s, .cells [(R.n * 64, iv .u8 R.sure.flatten)] 72) :: (K.x, .cells [(R.n * 64, iv .u8 R.new.flatten)] 72) :: (K.i, .cells [(R.n, bv R.iss), (R.n - R.n, [])] 4) :: (j, .cells [(1, [.pointer (some ⟨K.d, 0, none⟩)]), (1, [.slice (gA g.o) g.rs.length (gC g.o)])] 88) :: gRL 5 31 g : List (Nat × Blk)).map (·.1)) ((K.d, .cells [(1, [.slice (some ⟨K.s, 0, none⟩) r.1.n r.1.n]), (1, [.slice (some ⟨K.x, 0, none⟩) r.1.n r.1.n]), (1, [.slice (some ⟨K.i, 0, none⟩) r.1.n r.1.n]), (1, [.int .i64 r.1.fuse]), (1, [.bool r.1.dead])] 130) :: (K.s, .cells [(r.1.n * 64, iv .u8 r.1.sure.flatten)] 72) :: (K.x, .cells [(r.1.n * 64, iv .u8 r.1.new.flatten)] 72) :: (K.i, .cells [(r.1.n, bv r.1.iss), (r.1.n - r.1.n, [])] 4) :: (j, .cells [(1, [.pointer (some ⟨K.d, 0, none⟩)]), (1, [.slice (gA r.2.o) r.2.rs.length (gC r.2.o)])] 88) :: gRL 5 31 r.2 : List (Nat × Blk)) := by
 have hn1 := hok.n1
 have hn64 := hok.n64
 have rn := hrl.n
 subst hbl
 refine calls_of_W Try.func46 rfl Try.ntmps46 rfl rfl hp0 ?_
 refine sr ?_
 refine oas ?_
 refine nq ?_
 refine W.seq ?_
 refine sr ?_
 refine omv ?_
 refine ov vlenS ?_
 refine ov (v2 V_gtr) ?_
 refine nq ?_
 refine W.cond_dec rfl (fun g1 => ?_) (fun g1 => ?_)
 · refine W.seq ?_
   refine W.region ?_
   refine oas ?_
   refine nq ?_
   refine W.ret ?_
   refine WQ.then_ret ?_
   refine WQ.ret1 Try.results46 (.tmp rfl) ?_
   intro w' hp; obtain ⟨e1, e2⟩ := ap_long (D := D) (m := g.rs.length) (b := b) (by omega)
   rw [e2, e1]; exact ⟨(R, g), ⟨hrl, hg, (apL_no (by rw [e1]; decide)).symm⟩, rfl, hp.cov cov⟩
 · refine W.skip ?_
   refine WQ.then ?_
   refine W.seq ?_
   refine W.seq ?_
   refine dr (.q 0 (.q 1 (.q 2 (.q 3 (.q 4 (.q 5 (.q 6 (.q 7 (.q 8 (.q 9 (.q 10 (.q 11 (.q 12 (.q 13 (.done))))))))))))))) [(K.d, _), (j, _)] ?_
   refine dq rfl (V_move rfl) ?_
   refine dq rfl vnil ?_
   refine dq rfl (vfa0 1 1) ?_
   refine dq rfl vld ?_
   refine dq rfl vlenS ?_
   refine dq rfl (V_move rfl) ?_
   refine dq rfl vnil ?_
   refine dq rfl (vfa0 0 1) ?_
   refine dq rfl vld ?_
   refine dq rfl vnil ?_
   refine dq rfl (vfa 0 1) ?_
   refine dq rfl vld ?_
   refine dq rfl vlenS ?_
   refine dq rfl (v2 V_geq) ?_
   refine WD.done ?_
   refine WQ.then ?_
   refine W.cond_dec rfl (fun g2 => ?_) (fun g2 => ?_)
   · refine W.seq ?_
     refine W.region ?_
     refine oas ?_
     refine nq ?_
     refine W.ret ?_
     refine WQ.then_ret ?_
     refine WQ.ret1 Try.results46 (.tmp rfl) ?_
     intro w' hp; obtain ⟨e1, e2⟩ := ap_full (D := D) (m := g.rs.length) (b := b) (by omega) (by omega)
     rw [e2, e1]; exact ⟨(R, g), ⟨hrl, hg, (apL_no (by rw [e1]; decide)).symm⟩, rfl, hp.cov cov⟩
   · refine W.skip ?_
     refine WQ.then ?_
     refine W.seq ?_
     refine dr (.q 0 (.q 1 (.q 2 (.q 3 (.q 4 (.q 5 (.q 6 (.q 7 (.q 8 (.q 9 (.q 10 (.q 11 (.q 12 (.q 13 (.q 14 (.l 15 (.l 16 (.q 17 (.done))))))))))))))))))) [(j, _)] ?_
     refine dq rfl (V_move rfl) ?_
     refine dq rfl vnil ?_
     refine dq rfl (vfa0 0 1) ?_
     refine dq rfl vld ?_
     refine dq rfl (V_move rfl) ?_
     refine dq rfl vnil ?_
     refine dq rfl (vfa0 1 1) ?_
     refine dq rfl vld ?_
     refine dq rfl vlenS ?_
     refine dq rfl (V_move rfl) ?_
     refine dq rfl vnil ?_
     refine dq rfl (vfa0 1 1) ?_
     refine dq rfl vld ?_
     refine dq rfl vlenS ?_
     refine dq rfl (V_move rfl) ?_
     refine WD.l ?_
     refine dcp rfl rfl (fun w hp => rsector22_calls _ sc A b.length cap b hn (by omega) w (hb w _ hp)) ?_
     refine WD.l ?_
     refine dcg rfl rfl (fun w hp => rwrite21_calls K D R hok hrl _ _ (secF_sec hbb (by omega)) w (HP.here hp cov)) (fun b39 h39 => ?_)
     refine dq rfl (V_assign rfl) ?_
     refine WD.done ?_
     refine WQ.then ?_
     refine W.seq ?_
     refine sr ?_
     refine omv ?_
     refine ov (v2 V_eql) ?_
     refine nq ?_
     refine W.cond_dec rfl (fun g3 => ?_) (fun g3 => ?_)
     · refine W.region ?_
       refine omv ?_
       refine ov vnil ?_
       refine ov (vfa0 0 1) ?_
       refine ov vld ?_
       refine cg rfl (fun w hp => rsync21_calls K (wrD D g.rs.length (secF g.rs.length b)) b39 (wrD_ok hok (secF_sec hbb (by omega))) h39 w (HP.here hp cov)) (fun b46 h46 => ?_)
       refine oas ?_
       refine nq ?_
       refine W.seq ?_
       refine sr ?_
       refine omv ?_
       refine ov (v2 V_eql) ?_
       refine nq ?_
       refine W.cond_dec rfl (fun g4 => ?_) (fun g4 => ?_)
       · refine W.region ?_
         refine omv ?_
         refine obs 31 24 (fun b50 => ?_)
         refine omv ?_
         refine ov vnil ?_
         refine ov (vfa0 1 1) ?_
         refine ov vld ?_
         refine oapV 31 24 (fun b55 c55 r55 h55 => ?_) (hs := fun w hp => (GR.two hp hg).1)
         refine obsI (k := .u8) 5 1 [] (fun b56 => ?_)
         refine omv ?_
         refine oap0 (k := .u8) (l2 := b) 5 1 (fun b58 c58 r58 h58 => ?_) (hs := fun w hp => hb w _ hp)
         refine obs 31 24 (fun b59 => ?_)
         refine oapV (ys := [RowB.v ⟨b58, b.length, c58, r58, b⟩]) 31 24 (fun b60 c60 r60 h60 => ?_) (hs := fun w hp => sw)
         refine ov vnil ?_
         refine ov (vfa0 1 1) ?_
         refine ost ?_
         refine nx ?_
         refine omv ?_
         refine oas ?_
         refine nq ?_
         refine W.ret ?_
         refine WQ.ret1 Try.results46 (.tmp rfl) ?_
         intro w' hp; obtain ⟨e1, e2⟩ := ap_sy (D := D) (m := g.rs.length) (b := b) (by omega) (by omega) g3
         have e3 : apE D g.rs.length b = 0 := by rw [e1]; exact g4
         rw [e2, e3]; refine ⟨(b46, ⟨some (b60, c60, r60), g.rs ++ [⟨b58, b.length, c58, r58, b⟩]⟩), ⟨h46, ⟨?_, ?_⟩, apL_yes (r := ⟨b58, b.length, c58, r58, b⟩) e3⟩, ?_, ?_⟩
         · show (g.rs ++ [_]).length ≤ c60
           rw [List.length_append, List.length_singleton]; omega
         · intro q hq
           rcases List.mem_append.1 hq with hq | hq
           · exact hg.2 q hq
           · rw [List.mem_singleton.1 hq]; exact ⟨rfl, h58, hbb⟩
         · rw [g4]
         · dsimp only
           rw [gRL_snoc]
           unfold gRL at hp
           rw [Nat.zero_add] at hp
           rw [List.length_append, List.length_singleton, List.map_append]
           exact hp.cov cov
       · refine W.skip ?_
         refine WQ.then ?_
         refine sr ?_
         refine omv ?_
         refine oas ?_
         refine nq ?_
         refine W.ret ?_
         refine WQ.ret1 Try.results46 (.tmp rfl) ?_
         intro w' hp; obtain ⟨e1, e2⟩ := ap_sy (D := D) (m := g.rs.length) (b := b) (by omega) (by omega) g3
         rw [e2, e1]; exact ⟨(b46, g), ⟨h46, hg, (apL_no (by rw [e1]; exact g4)).symm⟩, rfl, hp.cov cov⟩
     · refine W.skip ?_
       refine WQ.then ?_
       refine W.seq ?_
       refine sr ?_
       refine omv ?_
       refine ov (v2 V_eql) ?_
       refine nq ?_
       refine W.cond_dec rfl (fun g5 => ?_) (fun g5 => ?_)
       · refine W.region ?_
         refine omv ?_
         refine obs 31 24 (fun b50 => ?_)
         refine omv ?_
         refine ov vnil ?_
         refine ov (vfa0 1 1) ?_
         refine ov vld ?_
         refine oapV 31 24 (fun b55 c55 r55 h55 => ?_) (hs := fun w hp => (GR.two hp hg).1)
         refine obsI (k := .u8) 5 1 [] (fun b56 => ?_)
         refine omv ?_
         refine oap0 (k := .u8) (l2 := b) 5 1 (fun b58 c58 r58 h58 => ?_) (hs := fun w hp => hb w _ hp)
         refine obs 31 24 (fun b59 => ?_)
         refine oapV (ys := [RowB.v ⟨b58, b.length, c58, r58, b⟩]) 31 24 (fun b60 c60 r60 h60 => ?_) (hs := fun w hp => sw)
         refine ov vnil ?_
         refine ov (vfa0 1 1) ?_
         refine ost ?_
         refine nx ?_
         refine omv ?_
         refine oas ?_
         refine nq ?_
         refine W.ret ?_
         refine WQ.ret1 Try.results46 (.tmp rfl) ?_
         exact absurd g5 g3
       · refine W.skip ?_
         refine WQ.then ?_
         refine sr ?_
         refine omv ?_
         refine oas ?_
         refine nq ?_
         refine W.ret ?_
         refine WQ.ret1 Try.results46 (.tmp rfl) ?_
         intro w' hp; obtain ⟨e1, e2⟩ := ap_wr (D := D) (m := g.rs.length) (b := b) (by omega) (by omega) g3
         rw [e2, e1]; exact ⟨(b39, g), ⟨h39, hg, (apL_no (by rw [e1]; exact g3)).symm⟩, rfl, hp.cov cov⟩

end Go.Proofs.Ytnpnnafcdnefiaa