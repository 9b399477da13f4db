/- The journal: a record more. -/
import Derived.Test.YtnpnnafcdnefiaaJour
import Derived.Test.YtnpnnafcdnefiaaXC
set_option linter.unusedVariables false
set_option linter.unusedSimpArgs false

namespace Go.Proofs.Ytnpnnafcdnefiaa
open Go.X
def apE (D : DS) (m : Nat) (b : List Int) : Int :=
  if 59 < b.length then 1 else if D.n ≤ m then 8 else if wrE D m ≠ 0 then wrE D m else burnE (wrD D m (secF m b))
def apD (D : DS) (m : Nat) (b : List Int) : DS :=
  if 59 < b.length then D else if D.n ≤ m then D else if wrE D m ≠ 0 then wrD D m (secF m b) else syD (wrD D m (secF m b))
def apL (D : DS) (ll : List (List Int)) (b : List Int) : List (List Int) := if apE D ll.length b = 0 then ll ++ [b] else ll
theorem ap_long {D : DS} {m : Nat} {b : List Int} (h : 59 < b.length) : apE D m b = 1 ∧ apD D m b = D := by unfold apE apD; rw [if_pos h, if_pos h]; exact ⟨rfl, rfl⟩
theorem ap_full {D : DS} {m : Nat} {b : List Int} (h : ¬ 59 < b.length) (h2 : D.n ≤ m) : apE D m b = 8 ∧ apD D m b = D := by unfold apE apD; rw [if_neg h, if_neg h, if_pos h2, if_pos h2]; exact ⟨rfl, rfl⟩
theorem ap_wr {D : DS} {m : Nat} {b : List Int} (h : ¬ 59 < b.length) (h2 : ¬ D.n ≤ m) (h3 : wrE D m ≠ 0) : apE D m b = wrE D m ∧ apD D m b = wrD D m (secF m b) := by unfold apE apD; rw [if_neg h, if_neg h, if_neg h2, if_neg h2, if_pos h3, if_pos h3]; exact ⟨rfl, rfl⟩
theorem ap_sy {D : DS} {m : Nat} {b : List Int} (h : ¬ 59 < b.length) (h2 : ¬ D.n ≤ m) (h3 : wrE D m = 0) : apE D m b = burnE (wrD D m (secF m b)) ∧ apD D m b = syD (wrD D m (secF m b)) := by
  unfold apE apD; rw [if_neg h, if_neg h, if_neg h2, if_neg h2, if_neg (by simp [h3]), if_neg (by simp [h3])]; exact ⟨rfl, rfl⟩
theorem GR.ll_len {g : GR} : g.ll.length = g.rs.length := by simp [GR.ll]
theorem apL_no {D : DS} {g : GR} {b : List Int} (h : apE D g.rs.length b ≠ 0) : apL D g.ll b = g.ll := by unfold apL; rw [GR.ll_len, if_neg h]
theorem apL_yes {D : DS} {o : Gr} {g : GR} {r : RowB} (h : apE D g.rs.length r.l = 0) : GR.ll ⟨o, g.rs ++ [r]⟩ = apL D g.ll r.l := by unfold apL; rw [GR.ll_len, if_pos h]; simp [GR.ll]
theorem secF_bytes {i : Int} {b : List Int} (hb : bytes b) (h : b.length ≤ 59) : bytes (secF i b) := by
  rw [secF_eq h, List.take_of_length_le (by simp)]
  refine bytes.app ?_ bytes_rep
  unfold secH
  exact (bytes.app highF_bytes (bytes_cons.2 ⟨⟨by omega, by omega⟩, bytes_nil⟩)).app hb
theorem secF_sec {i : Int} {b : List Int} (hb : bytes b) (h : b.length ≤ 59) : Sec (secF i b) := ⟨secF_len h, secF_bytes hb h⟩
theorem wrD_n {D : DS} {i : Int} {s : List Int} : (wrD D i s).n = D.n := by unfold wrD; split <;> (try split) <;> first | exact burnD_n | rfl
theorem syD_n {D : DS} : (syD D).n = D.n := by unfold syD; split <;> first | exact burnD_n | rfl
theorem apD_n {D : DS} {m : Nat} {b : List Int} : (apD D m b).n = D.n := by unfold apD; split <;> (try split) <;> (try split) <;> first | rfl | exact wrD_n | exact syD_n.trans wrD_n
theorem apD_ok {D : DS} (hok : DOK D) {m : Nat} {b : List Int} (hb : bytes b) : DOK (apD D m b) := by
  unfold apD; split
  · exact hok
  · rename_i h
    split
    · exact hok
    · split
      · exact wrD_ok hok (secF_sec hb (by omega))
      · exact syD_ok (wrD_ok hok (secF_sec hb (by omega)))

theorem append22_calls (K : DK) (D : DS) (hok : DOK D) (j : Nat) (g : GR) (hg : g.OK) (hgn : g.rs.length ≤ D.n) (A : Option Addr) (n cap : Nat) (b : List Int) (hbb : bytes b) (hn : n ≤ cap) (hbl : n = b.length) (w : World) (hp0 : HP w w (((K.d, .cells [(1, [.slice (some ⟨K.s, 0, none⟩) D.n D.n]), (1, [.map (some K.m)]), (1, [.int .i64 D.fuse]), (1, [.bool D.dead])] 101) :: (K.s, .cells [(D.n * 64, iv .u8 D.sure.flatten)] 58) :: (K.m, .obj (mapO .i64 (D.m.map sE) D.ck)) :: (j, .cells [(1, [.pointer (some ⟨K.d, 0, none⟩)]), (1, [.int .i64 (g.rs.length : Nat)]), (1, [.int .i64 (D.n : Nat)]), (1, [.slice (gA g.o) g.rs.length (gC g.o)])] 103) :: gRL 5 31 g : List (Nat × Blk)).map (·.1)) ((K.d, .cells [(1, [.slice (some ⟨K.s, 0, none⟩) D.n D.n]), (1, [.map (some K.m)]), (1, [.int .i64 D.fuse]), (1, [.bool D.dead])] 101) :: (K.s, .cells [(D.n * 64, iv .u8 D.sure.flatten)] 58) :: (K.m, .obj (mapO .i64 (D.m.map sE) D.ck)) :: (j, .cells [(1, [.pointer (some ⟨K.d, 0, none⟩)]), (1, [.int .i64 (g.rs.length : Nat)]), (1, [.int .i64 (D.n : Nat)]), (1, [.slice (gA g.o) g.rs.length (gC g.o)])] 103) :: gRL 5 31 g : List (Nat × Blk))) (hb : ∀ w' M, HP w w' (((K.d, .cells [(1, [.slice (some ⟨K.s, 0, none⟩) D.n D.n]), (1, [.map (some K.m)]), (1, [.int .i64 D.fuse]), (1, [.bool D.dead])] 101) :: (K.s, .cells [(D.n * 64, iv .u8 D.sure.flatten)] 58) :: (K.m, .obj (mapO .i64 (D.m.map sE) D.ck)) :: (j, .cells [(1, [.pointer (some ⟨K.d, 0, none⟩)]), (1, [.int .i64 (g.rs.length : Nat)]), (1, [.int .i64 (D.n : Nat)]), (1, [.slice (gA g.o) g.rs.length (gC g.o)])] 103) :: gRL 5 31 g : List (Nat × Blk)).map (·.1)) M → SrW w' 1 A n (iv .u8 b)) :
    Calls Try.prog 18 [.pointer (some ⟨j, 0, none⟩), .slice A n cap].toArray w fun e w' => ∃ r : GR, (r.OK ∧ r.ll = apL D g.ll b) ∧ e = .returned (.int .i64 (apE D g.rs.length b)) ∧ HP w w' (((K.d, .cells [(1, [.slice (some ⟨K.s, 0, none⟩) D.n D.n]), (1, [.map (some K.m)]), (1, [.int .i64 D.fuse]), (1, [.bool D.dead])] 101) :: (K.s, .cells [(D.n * 64, iv .u8 D.sure.flatten)] 58) :: (K.m, .obj (mapO .i64 (D.m.map sE) D.ck)) :: (j, .cells [(1, [.pointer (some ⟨K.d, 0, none⟩)]), (1, [.int .i64 (g.rs.length : Nat)]), (1, [.int .i64 (D.n : Nat)]), (1, [.slice (gA g.o) g.rs.length (gC g.o)])] 103) :: gRL 5 31 g : List (Nat × Blk)).map (·.1)) ((K.d, .cells [(1, [.slice (some ⟨K.s, 0, none⟩) (apD D g.rs.length b).n (apD D g.rs.length b).n]), (1, [.map (some K.m)]), (1, [.int .i64 (apD D g.rs.length b).fuse]), (1, [.bool (apD D g.rs.length b).dead])] 101) :: (K.s, .cells [((apD D g.rs.length b).n * 64, iv .u8 (apD D g.rs.length b).sure.flatten)] 58) :: (K.m, .obj (mapO .i64 ((apD D g.rs.length b).m.map sE) (apD D g.rs.length b).ck)) :: (j, .cells [(1, [.pointer (some ⟨K.d, 0, none⟩)]), (1, [.int .i64 (r.rs.length : Nat)]), (1, [.int .i64 ((apD D g.rs.length b).n : Nat)]), (1, [.slice (gA r.o) r.rs.length (gC r.o)])] 103) :: gRL 5 31 r : List (Nat × Blk)) := by
 have hn1 := hok.n1
 have hn64 := hok.n64
 subst hbl
 refine calls_of_W Try.func18 rfl Try.ntmps18 rfl rfl hp0 ?_
 refine sr ?_
 refine oas ?_
 refine nq ?_
 refine W.seq ?_
 refine W.block ?_
 refine sr ?_
 refine omv ?_
 refine ov vlenS ?_
 refine ov (v2 V_gtr) ?_
 refine oas ?_
 refine nq ?_
 refine W.cond_dec rfl (fun g1 => ?_) (fun g1 => ?_)
 · refine W.seq ?_
   refine W.region ?_
   refine oas ?_
   refine nq ?_
   refine W.ret ?_
   refine WQ.block_ret ?_
   refine WQ.then_ret ?_
   refine WQ.ret1 Try.results18 (.tmp rfl) ?_
   intro w' hp; obtain ⟨e1, e2⟩ := ap_long (D := D) (m := g.rs.length) (b := b) (by omega)
   rw [e2, e1]; exact ⟨g, ⟨hg, (apL_no (by rw [e1]; decide)).symm⟩, (by first | trivial | rfl), hp.cov cov⟩
 · refine W.seq ?_
   refine dr (.q 0 (.q 1 (.q 2 (.q 3 (.q 4 (.q 5 (.q 6 (.q 7 (.q 8 (.q 9 (.done))))))))))) [(j, _)] ?_
   refine dq rfl (V_move rfl) ?_
   refine dq rfl vnil ?_
   refine dq rfl (vfa0 1 1) ?_
   refine dq rfl vld ?_
   refine dq rfl (V_move rfl) ?_
   refine dq rfl vnil ?_
   refine dq rfl (vfa0 2 1) ?_
   refine dq rfl vld ?_
   refine dq rfl (v2 V_geq) ?_
   refine dq rfl (V_assign rfl) ?_
   refine WD.done ?_
   refine WQ.then ?_
   refine W.cond_dec rfl (fun g2 => ?_) (fun g2 => ?_)
   · refine W.seq ?_
     refine W.region ?_
     refine oas ?_
     refine nq ?_
     refine W.ret ?_
     refine WQ.block_ret ?_
     refine WQ.then_ret ?_
     refine WQ.ret1 Try.results18 (.tmp rfl) ?_
     intro w' hp; obtain ⟨e1, e2⟩ := ap_full (D := D) (m := g.rs.length) (b := b) (by omega) (by omega)
     rw [e2, e1]; exact ⟨g, ⟨hg, (apL_no (by rw [e1]; decide)).symm⟩, (by first | trivial | rfl), hp.cov cov⟩
   · refine W.skip ?_
     refine WQ.block_normal ?_
     refine WQ.then ?_
     refine W.seq ?_
     refine W.seq ?_
     refine dr (.q 0 (.q 1 (.q 2 (.q 3 (.q 4 (.q 5 (.q 6 (.q 7 (.q 8 (.q 9 (.q 10 (.q 11 (.q 12 (.l 13 (.l 14 (.q 15 (.done))))))))))))))))) [(j, _)] ?_
     refine dq rfl (V_move rfl) ?_
     refine dq rfl vnil ?_
     refine dq rfl (vfa0 0 1) ?_
     refine dq rfl vld ?_
     refine dq rfl (V_move rfl) ?_
     refine dq rfl vnil ?_
     refine dq rfl (vfa0 1 1) ?_
     refine dq rfl vld ?_
     refine dq rfl (V_move rfl) ?_
     refine dq rfl vnil ?_
     refine dq rfl (vfa0 1 1) ?_
     refine dq rfl vld ?_
     refine dq rfl (V_move rfl) ?_
     refine WD.l ?_
     refine dcp rfl rfl (fun w hp => sector22_calls _ sc A b.length cap b hn (by omega) w (hb w _ hp)) ?_
     refine WD.l ?_
     refine dcms rfl rfl (fun w hp => write21_calls K D hok _ _ (secF_sec hbb (by omega)) w (HP.here hp cov)) ?_
     refine dq rfl (V_assign rfl) ?_
     refine WD.done ?_
     refine WQ.then ?_
     refine sr ?_
     refine omv ?_
     refine ov (v2 V_neq) ?_
     refine nq ?_
     refine W.cond_dec rfl (fun g3 => ?_) (fun g3 => ?_)
     · refine W.seq ?_
       refine W.region ?_
       refine omv ?_
       refine oas ?_
       refine nq ?_
       refine W.ret ?_
       refine WQ.then_ret ?_
       refine WQ.ret1 Try.results18 (.tmp rfl) ?_
       intro w' hp; obtain ⟨e1, e2⟩ := ap_wr (D := D) (m := g.rs.length) (b := b) (by omega) (by omega) g3
       rw [e2, e1]; simp only [wrD_n] at hp ⊢; exact ⟨g, ⟨hg, (apL_no (by rw [e1]; exact g3)).symm⟩, (by first | trivial | rfl), hp.cov cov⟩
     · refine W.skip ?_
       refine WQ.then ?_
       refine W.seq ?_
       refine sr ?_
       refine omv ?_
       refine ov vnil ?_
       refine ov (vfa0 0 1) ?_
       refine ov vld ?_
       refine cms rfl (fun w hp => sync21_calls K (wrD D g.rs.length (secF g.rs.length b)) (wrD_ok hok (secF_sec hbb (by omega))) w (HP.here hp cov)) ?_
       refine oas ?_
       refine nx ?_
       refine omv ?_
       refine ov (v2 V_neq) ?_
       refine nq ?_
       refine W.cond_dec rfl (fun g4 => ?_) (fun g4 => ?_)
       · refine W.seq ?_
         refine W.region ?_
         refine omv ?_
         refine oas ?_
         refine nq ?_
         refine W.ret ?_
         refine WQ.then_ret ?_
         refine WQ.ret1 Try.results18 (.tmp rfl) ?_
         intro w' hp; obtain ⟨e1, e2⟩ := ap_sy (D := D) (m := g.rs.length) (b := b) (by omega) (by omega) (by simpa using g3)
         rw [e2, e1]; simp only [wrD_n, syD_n] at hp ⊢; exact ⟨g, ⟨hg, (apL_no (by rw [e1]; exact g4)).symm⟩, (by first | trivial | rfl), hp.cov cov⟩
       · refine W.skip ?_
         refine WQ.then ?_
         refine W.seq ?_
         refine dr (.q 0 (.q 1 (.q 2 (.q 3 (.q 6 (.l2 4 (.l 5 (.l 7 (.l 8 (.l 9 (.q 10 (.q 11 (.l 12 (.done)))))))) 5 (.l2 4 (.l 7 (.l 8 (.l 9 (.q 10 (.q 11 (.l 12 (.done))))))) 7 (.l2 4 (.l 8 (.l 9 (.q 10 (.q 11 (.l 12 (.done)))))) 8 (.l 4 (.l 9 (.q 10 (.q 11 (.l 12 (.done)))))))))))))) [] ?_
         refine dq rfl (V_move rfl) ?_
         refine dq rfl (V_move rfl) ?_
         refine dq rfl vnil ?_
         refine dq rfl (vfa0 3 1) ?_
         refine dq rfl (V_move rfl) ?_
         refine WD.l2 ?_ ?_
         · refine dv rfl vld ?_
           refine WD.l ?_
           refine dbsI (k := .u8) rfl 5 1 [] (fun b52 => ?_)
           refine WD.l ?_
           refine dap0 (k := .u8) (l2 := b) rfl 5 1 (fun b54 c54 r54 h54 => ?_) (hs := fun w hp => hb w _ hp)
           refine WD.l ?_
           refine dbs rfl 31 24 (fun b55 => ?_)
           refine WD.l ?_
           refine dapR (r := ⟨b54, b.length, c54, r54, b⟩) rfl 5 31 24 (fun o56 h56 => ?_) (hr := ⟨rfl, h54, hbb⟩)
           refine dq rfl vnil ?_
           refine dq rfl (vfa0 3 1) ?_
           refine WD.l ?_
           refine dst rfl ?_
           refine WD.done ?_
           refine WQ.then ?_
           refine sr ?_
           refine omv ?_
           refine ov vnil ?_
           refine ov (vfa0 1 1) ?_
           refine ov vld ?_
           first | refine ov vaddN ?_ | refine ov vadd ?_
           refine ov vnil ?_
           refine ov (vfa0 1 1) ?_
           refine ost ?_
           refine nx ?_
           refine oas ?_
           refine nq ?_
           refine W.ret ?_
           refine WQ.ret1 Try.results18 (.tmp rfl) ?_
           intro w' hp; obtain ⟨e1, e2⟩ := ap_sy (D := D) (m := g.rs.length) (b := b) (by omega) (by omega) (by simpa using g3)
           have e3 : apE D g.rs.length b = 0 := by rw [e1]; simpa using g4
           have e4 : ((g.rs.length : Int) + 1) = (((g.rs ++ [(⟨b54, b.length, c54, r54, b⟩ : RowB)]).length : Nat) : Int) := by simp
           rw [e4] at hp
           rw [e2, e3]; simp only [wrD_n, syD_n] at hp ⊢; exact ⟨⟨o56, g.rs ++ [⟨b54, b.length, c54, r54, b⟩]⟩, ⟨h56, apL_yes (r := ⟨b54, b.length, c54, r54, b⟩) e3⟩, (by first | trivial | rfl), hp.cov cov⟩
         · refine dbsI (k := .u8) rfl 5 1 [] (fun b52 => ?_)
           refine WD.l2 ?_ ?_
           · refine dv rfl vld ?_
             refine WD.l ?_
             refine dap0 (k := .u8) (l2 := b) rfl 5 1 (fun b54 c54 r54 h54 => ?_) (hs := fun w hp => hb w _ hp)
             refine WD.l ?_
             refine dbs rfl 31 24 (fun b55 => ?_)
             refine WD.l ?_
             refine dapR (r := ⟨b54, b.length, c54, r54, b⟩) rfl 5 31 24 (fun o56 h56 => ?_) (hr := ⟨rfl, h54, hbb⟩)
             refine dq rfl vnil ?_
             refine dq rfl (vfa0 3 1) ?_
             refine WD.l ?_
             refine dst rfl ?_
             refine WD.done ?_
             refine WQ.then ?_
             refine sr ?_
             refine omv ?_
             refine ov vnil ?_
             refine ov (vfa0 1 1) ?_
             refine ov vld ?_
             first | refine ov vaddN ?_ | refine ov vadd ?_
             refine ov vnil ?_
             refine ov (vfa0 1 1) ?_
             refine ost ?_
             refine nx ?_
             refine oas ?_
             refine nq ?_
             refine W.ret ?_
             refine WQ.ret1 Try.results18 (.tmp rfl) ?_
             intro w' hp; obtain ⟨e1, e2⟩ := ap_sy (D := D) (m := g.rs.length) (b := b) (by omega) (by omega) (by simpa using g3)
             have e3 : apE D g.rs.length b = 0 := by rw [e1]; simpa using g4
             have e4 : ((g.rs.length : Int) + 1) = (((g.rs ++ [(⟨b54, b.length, c54, r54, b⟩ : RowB)]).length : Nat) : Int) := by simp
             rw [e4] at hp
             rw [e2, e3]; simp only [wrD_n, syD_n] at hp ⊢; exact ⟨⟨o56, g.rs ++ [⟨b54, b.length, c54, r54, b⟩]⟩, ⟨h56, apL_yes (r := ⟨b54, b.length, c54, r54, b⟩) e3⟩, (by first | trivial | rfl), hp.cov cov⟩
           · refine dap0 (k := .u8) (l2 := b) rfl 5 1 (fun b54 c54 r54 h54 => ?_) (hs := fun w hp => hb w _ hp)
             refine WD.l2 ?_ ?_
             · refine dv rfl vld ?_
               refine WD.l ?_
               refine dbs rfl 31 24 (fun b55 => ?_)
               refine WD.l ?_
               refine dapR (r := ⟨b54, b.length, c54, r54, b⟩) rfl 5 31 24 (fun o56 h56 => ?_) (hr := ⟨rfl, h54, hbb⟩)
               refine dq rfl vnil ?_
               refine dq rfl (vfa0 3 1) ?_
               refine WD.l ?_
               refine dst rfl ?_
               refine WD.done ?_
               refine WQ.then ?_
               refine sr ?_
               refine omv ?_
               refine ov vnil ?_
               refine ov (vfa0 1 1) ?_
               refine ov vld ?_
               first | refine ov vaddN ?_ | refine ov vadd ?_
               refine ov vnil ?_
               refine ov (vfa0 1 1) ?_
               refine ost ?_
               refine nx ?_
               refine oas ?_
               refine nq ?_
               refine W.ret ?_
               refine WQ.ret1 Try.results18 (.tmp rfl) ?_
               intro w' hp; obtain ⟨e1, e2⟩ := ap_sy (D := D) (m := g.rs.length) (b := b) (by omega) (by omega) (by simpa using g3)
               have e3 : apE D g.rs.length b = 0 := by rw [e1]; simpa using g4
               have e4 : ((g.rs.length : Int) + 1) = (((g.rs ++ [(⟨b54, b.length, c54, r54, b⟩ : RowB)]).length : Nat) : Int) := by simp
               rw [e4] at hp
               rw [e2, e3]; simp only [wrD_n, syD_n] at hp ⊢; exact ⟨⟨o56, g.rs ++ [⟨b54, b.length, c54, r54, b⟩]⟩, ⟨h56, apL_yes (r := ⟨b54, b.length, c54, r54, b⟩) e3⟩, (by first | trivial | rfl), hp.cov cov⟩
             · refine dbs rfl 31 24 (fun b55 => ?_)
               refine WD.l ?_
               refine dv rfl vld ?_
               refine WD.l ?_
               refine dapR (r := ⟨b54, b.length, c54, r54, b⟩) rfl 5 31 24 (fun o56 h56 => ?_) (hr := ⟨rfl, h54, hbb⟩)
               refine dq rfl vnil ?_
               refine dq rfl (vfa0 3 1) ?_
               refine WD.l ?_
               refine dst rfl ?_
               refine WD.done ?_
               refine WQ.then ?_
               refine sr ?_
               refine omv ?_
               refine ov vnil ?_
               refine ov (vfa0 1 1) ?_
               refine ov vld ?_
               first | refine ov vaddN ?_ | refine ov vadd ?_
               refine ov vnil ?_
               refine ov (vfa0 1 1) ?_
               refine ost ?_
               refine nx ?_
               refine oas ?_
               refine nq ?_
               refine W.ret ?_
               refine WQ.ret1 Try.results18 (.tmp rfl) ?_
               intro w' hp; obtain ⟨e1, e2⟩ := ap_sy (D := D) (m := g.rs.length) (b := b) (by omega) (by omega) (by simpa using g3)
               have e3 : apE D g.rs.length b = 0 := by rw [e1]; simpa using g4
               have e4 : ((g.rs.length : Int) + 1) = (((g.rs ++ [(⟨b54, b.length, c54, r54, b⟩ : RowB)]).length : Nat) : Int) := by simp
               rw [e4] at hp
               rw [e2, e3]; simp only [wrD_n, syD_n] at hp ⊢; exact ⟨⟨o56, g.rs ++ [⟨b54, b.length, c54, r54, b⟩]⟩, ⟨h56, apL_yes (r := ⟨b54, b.length, c54, r54, b⟩) e3⟩, (by first | trivial | rfl), hp.cov cov⟩

end Go.Proofs.Ytnpnnafcdnefiaa