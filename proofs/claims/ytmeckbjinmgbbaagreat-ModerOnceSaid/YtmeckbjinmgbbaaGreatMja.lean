/- The journal: a record more. -/
import Derived.Test.YtmeckbjinmgbbaaGreatJour
import Derived.Test.YtmeckbjinmgbbaaGreatXC
import Derived.Test.YtmeckbjinmgbbaaGreatMda
set_option linter.unusedVariables false
set_option linter.unusedSimpArgs false

namespace Go.Proofs.YtmeckbjinmgbbaaGreat
open Go.X
def apE (D : DS) (m : Nat) (b : List Int) : Int :=
  if 59 < b.length then 1 else if D.n ≤ m then 8 else if wrE D m ≠ 0 then wrE D m else burnE (wrD D m (secF m b))
def apD (D : DS) (m : Nat) (b : List Int) : DS :=
  if 59 < b.length then D else if D.n ≤ m then D else if wrE D m ≠ 0 then wrD D m (secF m b) else syD (wrD D m (secF m b))
def apL (D : DS) (ll : List (List Int)) (b : List Int) : List (List Int) := if apE D ll.length b = 0 then ll ++ [b] else ll
theorem ap_long {D : DS} {m : Nat} {b : List Int} (h : 59 < b.length) : apE D m b = 1 ∧ apD D m b = D := by unfold apE apD; rw [if_pos h, if_pos h]; exact ⟨rfl, rfl⟩
theorem ap_full {D : DS} {m : Nat} {b : List Int} (h : ¬ 59 < b.length) (h2 : D.n ≤ m) : apE D m b = 8 ∧ apD D m b = D := by unfold apE apD; rw [if_neg h, if_neg h, if_pos h2, if_pos h2]; exact ⟨rfl, rfl⟩
theorem ap_wr {D : DS} {m : Nat} {b : List Int} (h : ¬ 59 < b.length) (h2 : ¬ D.n ≤ m) (h3 : wrE D m ≠ 0) : apE D m b = wrE D m ∧ apD D m b = wrD D m (secF m b) := by unfold apE apD; rw [if_neg h, if_neg h, if_neg h2, if_neg h2, if_pos h3, if_pos h3]; exact ⟨rfl, rfl⟩
theorem ap_sy {D : DS} {m : Nat} {b : List Int} (h : ¬ 59 < b.length) (h2 : ¬ D.n ≤ m) (h3 : wrE D m = 0) : apE D m b = burnE (wrD D m (secF m b)) ∧ apD D m b = syD (wrD D m (secF m b)) := by
  unfold apE apD; rw [if_neg h, if_neg h, if_neg h2, if_neg h2, if_neg (by simp [h3]), if_neg (by simp [h3])]; exact ⟨rfl, rfl⟩
theorem GR.ll_len {g : GR} : g.ll.length = g.rs.length := by simp [GR.ll]
theorem apL_no {D : DS} {g : GR} {b : List Int} (h : apE D g.rs.length b ≠ 0) : apL D g.ll b = g.ll := by unfold apL; rw [GR.ll_len, if_neg h]
theorem apL_yes {D : DS} {o : Gr} {g : GR} {r : RowB} (h : apE D g.rs.length r.l = 0) : GR.ll ⟨o, g.rs ++ [r]⟩ = apL D g.ll r.l := by unfold apL; rw [GR.ll_len, if_pos h]; simp [GR.ll]
theorem secF_bytes {i : Int} {b : List Int} (hb : bytes b) (h : b.length ≤ 59) : bytes (secF i b) := by
  rw [secF_eq h, List.take_of_length_le (by simp)]
  refine bytes.app ?_ bytes_rep
  unfold secH
  exact (bytes.app highF_bytes (bytes_cons.2 ⟨⟨by omega, by omega⟩, bytes_nil⟩)).app hb
theorem secF_sec {i : Int} {b : List Int} (hb : bytes b) (h : b.length ≤ 59) : Sec (secF i b) := ⟨secF_len h, secF_bytes hb h⟩
theorem wrD_n {D : DS} {i : Int} {s : List Int} : (wrD D i s).n = D.n := by unfold wrD; split <;> (try split) <;> first | exact burnD_n | rfl
theorem syD_n {D : DS} : (syD D).n = D.n := by unfold syD; split <;> first | exact burnD_n | rfl
theorem apD_n {D : DS} {m : Nat} {b : List Int} : (apD D m b).n = D.n := by unfold apD; split <;> (try split) <;> (try split) <;> first | rfl | exact wrD_n | exact syD_n.trans wrD_n
theorem apD_ok {D : DS} (hok : DOK D) {m : Nat} {b : List Int} (hb : bytes b) : DOK (apD D m b) := by
  unfold apD; split
  · exact hok
  · rename_i h
    split
    · exact hok
    · split
      · exact wrD_ok hok (secF_sec hb (by omega))
      · exact syD_ok (wrD_ok hok (secF_sec hb (by omega)))

theorem append22_calls (K : DK) (D : DS) (hok : DOK D) (j : Nat) (g : GR) (hg : g.OK) (hgn : g.rs.length ≤ D.n) (A : Option Addr) (n cap : Nat) (b : List Int) (hbb : bytes b) (hn : n ≤ cap) (hbl : n = b.length) (w : World) (hp0 : HP w w (((K.d, .cells [(1, [.slice (some ⟨K.s, 0, none⟩) D.n D.n]), (1, [.map (some K.m)]), (1, [.int .i64 D.fuse]), (1, [.bool D.dead])] 74) :: (K.s, .cells [(D.n * 64, iv .u8 D.sure.flatten)] 115) :: (K.m, .obj (mapO .i64 (D.m.map sE) D.ck)) :: (j, .cells [(1, [.pointer (some ⟨K.d, 0, none⟩)]), (1, [.int .i64 (g.rs.length : Nat)]), (1, [.int .i64 (D.n : Nat)]), (1, [.slice (gA g.o) g.rs.length (gC g.o)])] 146) :: gRL 5 35 g : List (Nat × Blk)).map (·.1)) ((K.d, .cells [(1, [.slice (some ⟨K.s, 0, none⟩) D.n D.n]), (1, [.map (some K.m)]), (1, [.int .i64 D.fuse]), (1, [.bool D.dead])] 74) :: (K.s, .cells [(D.n * 64, iv .u8 D.sure.flatten)] 115) :: (K.m, .obj (mapO .i64 (D.m.map sE) D.ck)) :: (j, .cells [(1, [.pointer (some ⟨K.d, 0, none⟩)]), (1, [.int .i64 (g.rs.length : Nat)]), (1, [.int .i64 (D.n : Nat)]), (1, [.slice (gA g.o) g.rs.length (gC g.o)])] 146) :: gRL 5 35 g : List (Nat × Blk))) (hb : ∀ w' M, HP w w' (((K.d, .cells [(1, [.slice (some ⟨K.s, 0, none⟩) D.n D.n]), (1, [.map (some K.m)]), (1, [.int .i64 D.fuse]), (1, [.bool D.dead])] 74) :: (K.s, .cells [(D.n * 64, iv .u8 D.sure.flatten)] 115) :: (K.m, .obj (mapO .i64 (D.m.map sE) D.ck)) :: (j, .cells [(1, [.pointer (some ⟨K.d, 0, none⟩)]), (1, [.int .i64 (g.rs.length : Nat)]), (1, [.int .i64 (D.n : Nat)]), (1, [.slice (gA g.o) g.rs.length (gC g.o)])] 146) :: gRL 5 35 g : List (Nat × Blk)).map (·.1)) M → SrW w' 1 A n (iv .u8 b)) :
    Calls Tryz.prog 119 [.pointer (some ⟨j, 0, none⟩), .slice A n cap].toArray w fun e w' => ∃ r : GR, (r.OK ∧ r.ll = apL D g.ll b) ∧ e = .returned (.int .i64 (apE D g.rs.length b)) ∧ HP w w' (((K.d, .cells [(1, [.slice (some ⟨K.s, 0, none⟩) D.n D.n]), (1, [.map (some K.m)]), (1, [.int .i64 D.fuse]), (1, [.bool D.dead])] 74) :: (K.s, .cells [(D.n * 64, iv .u8 D.sure.flatten)] 115) :: (K.m, .obj (mapO .i64 (D.m.map sE) D.ck)) :: (j, .cells [(1, [.pointer (some ⟨K.d, 0, none⟩)]), (1, [.int .i64 (g.rs.length : Nat)]), (1, [.int .i64 (D.n : Nat)]), (1, [.slice (gA g.o) g.rs.length (gC g.o)])] 146) :: gRL 5 35 g : List (Nat × Blk)).map (·.1)) ((K.d, .cells [(1, [.slice (some ⟨K.s, 0, none⟩) (apD D g.rs.length b).n (apD D g.rs.length b).n]), (1, [.map (some K.m)]), (1, [.int .i64 (apD D g.rs.length b).fuse]), (1, [.bool (apD D g.rs.length b).dead])] 74) :: (K.s, .cells [((apD D g.rs.length b).n * 64, iv .u8 (apD D g.rs.length b).sure.flatten)] 115) :: (K.m, .obj (mapO .i64 ((apD D g.rs.length b).m.map sE) (apD D g.rs.length b).ck)) :: (j, .cells [(1, [.pointer (some ⟨K.d, 0, none⟩)]), (1, [.int .i64 (r.rs.length : Nat)]), (1, [.int .i64 ((apD D g.rs.length b).n : Nat)]), (1, [.slice (gA r.o) r.rs.length (gC r.o)])] 146) :: gRL 5 35 r : List (Nat × Blk)) := by
 have hn1 := hok.n1
 have hn64 := hok.n64
 subst hbl
 refine calls_of_W Tryz.func119 rfl Tryz.ntmps119 rfl rfl hp0 ?_
 refine sr ?_
 refine oas ?_
 refine nq ?_
 refine W.seq ?_
 refine W.block ?_
 refine sr ?_
 refine omv ?_
 refine ov vlenS ?_
 refine ov (v2 V_gtr) ?_
 refine oas ?_
 refine nq ?_
 refine W.cond_dec rfl (fun g1 => ?_) (fun g1 => ?_)
 · refine W.seq ?_
   refine W.region ?_
   refine oas ?_
   refine nq ?_
   refine W.ret ?_
   refine WQ.block_ret ?_
   refine WQ.then_ret ?_
   refine WQ.ret1 Tryz.results119 (.tmp rfl) ?_
   intro w' hp; obtain ⟨e1, e2⟩ := ap_long (D := D) (m := g.rs.length) (b := b) (by omega)
   rw [e2, e1]; exact ⟨g, ⟨hg, (apL_no (by rw [e1]; decide)).symm⟩, (by first | trivial | rfl), hp.cov cov⟩
 · refine W.seq ?_
   refine dr (.q 0 (.q 1 (.q 2 (.q 3 (.q 4 (.q 5 (.q 6 (.q 7 (.q 8 (.q 9 (.done))))))))))) [(j, _)] ?_
   refine dq rfl (V_move rfl) ?_
   refine dq rfl vnil ?_
   refine dq rfl (vfa0 1 1) ?_
   refine dq rfl vld ?_
   refine dq rfl (V_move rfl) ?_
   refine dq rfl vnil ?_
   refine dq rfl (vfa0 2 1) ?_
   refine dq rfl vld ?_
   refine dq rfl (v2 V_geq) ?_
   refine dq rfl (V_assign rfl) ?_
   refine WD.done ?_
   refine WQ.then ?_
   refine W.cond_dec rfl (fun g2 => ?_) (fun g2 => ?_)
   · refine W.seq ?_
     refine W.region ?_
     refine oas ?_
     refine nq ?_
     refine W.ret ?_
     refine WQ.block_ret ?_
     refine WQ.then_ret ?_
     refine WQ.ret1 Tryz.results119 (.tmp rfl) ?_
     intro w' hp; obtain ⟨e1, e2⟩ := ap_full (D := D) (m := g.rs.length) (b := b) (by omega) (by omega)
     rw [e2, e1]; exact ⟨g, ⟨hg, (apL_no (by rw [e1]; decide)).symm⟩, (by first | trivial | rfl), hp.cov cov⟩
   · refine W.skip ?_
     refine WQ.block_normal ?_
     refine WQ.then ?_
     refine W.seq ?_
     refine W.seq ?_
     refine dr (.q 0 (.q 1 (.q 2 (.q 3 (.q 4 (.q 5 (.q 6 (.q 7 (.q 8 (.q 9 (.q 10 (.q 11 (.q 12 (.l 13 (.l 14 (.q 15 (.done))))))))))))))))) [(j, _)] ?_
     refine dq rfl (V_move rfl) ?_
     refine dq rfl vnil ?_
     refine dq rfl (vfa0 0 1) ?_
     refine dq rfl vld ?_
     refine dq rfl (V_move rfl) ?_
     refine dq rfl vnil ?_
     refine dq rfl (vfa0 1 1) ?_
     refine dq rfl vld ?_
     refine dq rfl (V_move rfl) ?_
     refine dq rfl vnil ?_
     refine dq rfl (vfa0 1 1) ?_
     refine dq rfl vld ?_
     refine dq rfl (V_move rfl) ?_
     refine WD.l ?_
     refine dcp rfl rfl (fun w hp => sector22_calls _ sc A b.length cap b hn (by omega) w (hb w _ hp)) ?_
     refine WD.l ?_
     refine dcms rfl rfl (fun w hp => write21_calls K D hok _ _ (secF_sec hbb (by omega)) w (HP.here hp cov)) ?_
     refine dq rfl (V_assign rfl) ?_
     refine WD.done ?_
     refine WQ.then ?_
     refine sr ?_
     refine omv ?_
     refine ov (v2 V_neq) ?_
     refine nq ?_
     refine W.cond_dec rfl (fun g3 => ?_) (fun g3 => ?_)
     · refine W.seq ?_
       refine W.region ?_
       refine omv ?_
       refine oas ?_
       refine nq ?_
       refine W.ret ?_
       refine WQ.then_ret ?_
       refine WQ.ret1 Tryz.results119 (.tmp rfl) ?_
       intro w' hp; obtain ⟨e1, e2⟩ := ap_wr (D := D) (m := g.rs.length) (b := b) (by omega) (by omega) g3
       rw [e2, e1]; simp only [wrD_n] at hp ⊢; exact ⟨g, ⟨hg, (apL_no (by rw [e1]; exact g3)).symm⟩, (by first | trivial | rfl), hp.cov cov⟩
     · refine W.skip ?_
       refine WQ.then ?_
       refine W.seq ?_
       refine sr ?_
       refine omv ?_
       refine ov vnil ?_
       refine ov (vfa0 0 1) ?_
       refine ov vld ?_
       refine cms rfl (fun w hp => sync21_calls K (wrD D g.rs.length (secF g.rs.length b)) (wrD_ok hok (secF_sec hbb (by omega))) w (HP.here hp cov)) ?_
       refine oas ?_
       refine nx ?_
       refine omv ?_
       refine ov (v2 V_neq) ?_
       refine nq ?_
       refine W.cond_dec rfl (fun g4 => ?_) (fun g4 => ?_)
       · refine W.seq ?_
         refine W.region ?_
         refine omv ?_
         refine oas ?_
         refine nq ?_
         refine W.ret ?_
         refine WQ.then_ret ?_
         refine WQ.ret1 Tryz.results119 (.tmp rfl) ?_
         intro w' hp; obtain ⟨e1, e2⟩ := ap_sy (D := D) (m := g.rs.length) (b := b) (by omega) (by omega) (by simpa using g3)
         rw [e2, e1]; simp only [wrD_n, syD_n] at hp ⊢; exact ⟨g, ⟨hg, (apL_no (by rw [e1]; exact g4)).symm⟩, (by first | trivial | rfl), hp.cov cov⟩
       · refine W.skip ?_
         refine WQ.then ?_
         refine W.seq ?_
         refine dr (.q 0 (.q 1 (.q 2 (.q 3 (.q 6 (.l2 4 (.l 5 (.l 7 (.l 8 (.l 9 (.q 10 (.q 11 (.l 12 (.done)))))))) 5 (.l2 4 (.l 7 (.l 8 (.l 9 (.q 10 (.q 11 (.l 12 (.done))))))) 7 (.l2 4 (.l 8 (.l 9 (.q 10 (.q 11 (.l 12 (.done)))))) 8 (.l 4 (.l 9 (.q 10 (.q 11 (.l 12 (.done)))))))))))))) [] ?_
         refine dq rfl (V_move rfl) ?_
         refine dq rfl (V_move rfl) ?_
         refine dq rfl vnil ?_
         refine dq rfl (vfa0 3 1) ?_
         refine dq rfl (V_move rfl) ?_
         refine WD.l2 ?_ ?_
         · refine dv rfl vld ?_
           refine WD.l ?_
           refine dbsI (k := .u8) rfl 5 1 [] (fun b52 => ?_)
           refine WD.l ?_
           refine dap0 (k := .u8) (l2 := b) rfl 5 1 (fun b54 c54 r54 h54 => ?_) (hs := fun w hp => hb w _ hp)
           refine WD.l ?_
           refine dbs rfl 35 24 (fun b55 => ?_)
           refine WD.l ?_
           refine dapR (r := ⟨b54, b.length, c54, r54, b⟩) rfl 5 35 24 (fun o56 h56 => ?_) (hr := ⟨rfl, h54, hbb⟩)
           refine dq rfl vnil ?_
           refine dq rfl (vfa0 3 1) ?_
           refine WD.l ?_
           refine dst rfl ?_
           refine WD.done ?_
           refine WQ.then ?_
           refine sr ?_
           refine omv ?_
           refine ov vnil ?_
           refine ov (vfa0 1 1) ?_
           refine ov vld ?_
           first | refine ov vaddN ?_ | refine ov vadd ?_
           refine ov vnil ?_
           refine ov (vfa0 1 1) ?_
           refine ost ?_
           refine nx ?_
           refine oas ?_
           refine nq ?_
           refine W.ret ?_
           refine WQ.ret1 Tryz.results119 (.tmp rfl) ?_
           intro w' hp; obtain ⟨e1, e2⟩ := ap_sy (D := D) (m := g.rs.length) (b := b) (by omega) (by omega) (by simpa using g3)
           have e3 : apE D g.rs.length b = 0 := by rw [e1]; simpa using g4
           have e4 : ((g.rs.length : Int) + 1) = (((g.rs ++ [(⟨b54, b.length, c54, r54, b⟩ : RowB)]).length : Nat) : Int) := by simp
           rw [e4] at hp
           rw [e2, e3]; simp only [wrD_n, syD_n] at hp ⊢; exact ⟨⟨o56, g.rs ++ [⟨b54, b.length, c54, r54, b⟩]⟩, ⟨h56, apL_yes (r := ⟨b54, b.length, c54, r54, b⟩) e3⟩, (by first | trivial | rfl), hp.cov cov⟩
         · refine dbsI (k := .u8) rfl 5 1 [] (fun b52 => ?_)
           refine WD.l2 ?_ ?_
           · refine dv rfl vld ?_
             refine WD.l ?_
             refine dap0 (k := .u8) (l2 := b) rfl 5 1 (fun b54 c54 r54 h54 => ?_) (hs := fun w hp => hb w _ hp)
             refine WD.l ?_
             refine dbs rfl 35 24 (fun b55 => ?_)
             refine WD.l ?_
             refine dapR (r := ⟨b54, b.length, c54, r54, b⟩) rfl 5 35 24 (fun o56 h56 => ?_) (hr := ⟨rfl, h54, hbb⟩)
             refine dq rfl vnil ?_
             refine dq rfl (vfa0 3 1) ?_
             refine WD.l ?_
             refine dst rfl ?_
             refine WD.done ?_
             refine WQ.then ?_
             refine sr ?_
             refine omv ?_
             refine ov vnil ?_
             refine ov (vfa0 1 1) ?_
             refine ov vld ?_
             first | refine ov vaddN ?_ | refine ov vadd ?_
             refine ov vnil ?_
             refine ov (vfa0 1 1) ?_
             refine ost ?_
             refine nx ?_
             refine oas ?_
             refine nq ?_
             refine W.ret ?_
             refine WQ.ret1 Tryz.results119 (.tmp rfl) ?_
             intro w' hp; obtain ⟨e1, e2⟩ := ap_sy (D := D) (m := g.rs.length) (b := b) (by omega) (by omega) (by simpa using g3)
             have e3 : apE D g.rs.length b = 0 := by rw [e1]; simpa using g4
             have e4 : ((g.rs.length : Int) + 1) = (((g.rs ++ [(⟨b54, b.length, c54, r54, b⟩ : RowB)]).length : Nat) : Int) := by simp
             rw [e4] at hp
             rw [e2, e3]; simp only [wrD_n, syD_n] at hp ⊢; exact ⟨⟨o56, g.rs ++ [⟨b54, b.length, c54, r54, b⟩]⟩, ⟨h56, apL_yes (r := ⟨b54, b.length, c54, r54, b⟩) e3⟩, (by first | trivial | rfl), hp.cov cov⟩
           · refine dap0 (k := .u8) (l2 := b) rfl 5 1 (fun b54 c54 r54 h54 => ?_) (hs := fun w hp => hb w _ hp)
             refine WD.l2 ?_ ?_
             · refine dv rfl vld ?_
               refine WD.l ?_
               refine dbs rfl 35 24 (fun b55 => ?_)
               refine WD.l ?_
               refine dapR (r := ⟨b54, b.length, c54, r54, b⟩) rfl 5 35 24 (fun o56 h56 => ?_) (hr := ⟨rfl, h54, hbb⟩)
               refine dq rfl vnil ?_
               refine dq rfl (vfa0 3 1) ?_
               refine WD.l ?_
               refine dst rfl ?_
               refine WD.done ?_
               refine WQ.then ?_
               refine sr ?_
               refine omv ?_
               refine ov vnil ?_
               refine ov (vfa0 1 1) ?_
               refine ov vld ?_
               first | refine ov vaddN ?_ | refine ov vadd ?_
               refine ov vnil ?_
               refine ov (vfa0 1 1) ?_
               refine ost ?_
               refine nx ?_
               refine oas ?_
               refine nq ?_
               refine W.ret ?_
               refine WQ.ret1 Tryz.results119 (.tmp rfl) ?_
               intro w' hp; obtain ⟨e1, e2⟩ := ap_sy (D := D) (m := g.rs.length) (b := b) (by omega) (by omega) (by simpa using g3)
               have e3 : apE D g.rs.length b = 0 := by rw [e1]; simpa using g4
               have e4 : ((g.rs.length : Int) + 1) = (((g.rs ++ [(⟨b54, b.length, c54, r54, b⟩ : RowB)]).length : Nat) : Int) := by simp
               rw [e4] at hp
               rw [e2, e3]; simp only [wrD_n, syD_n] at hp ⊢; exact ⟨⟨o56, g.rs ++ [⟨b54, b.length, c54, r54, b⟩]⟩, ⟨h56, apL_yes (r := ⟨b54, b.length, c54, r54, b⟩) e3⟩, (by first | trivial | rfl), hp.cov cov⟩
             · refine dbs rfl 35 24 (fun b55 => ?_)
               refine WD.l ?_
               refine dv rfl vld ?_
               refine WD.l ?_
               refine dapR (r := ⟨b54, b.length, c54, r54, b⟩) rfl 5 35 24 (fun o56 h56 => ?_) (hr := ⟨rfl, h54, hbb⟩)
               refine dq rfl vnil ?_
               refine dq rfl (vfa0 3 1) ?_
               refine WD.l ?_
               refine dst rfl ?_
               refine WD.done ?_
               refine WQ.then ?_
               refine sr ?_
               refine omv ?_
               refine ov vnil ?_
               refine ov (vfa0 1 1) ?_
               refine ov vld ?_
               first | refine ov vaddN ?_ | refine ov vadd ?_
               refine ov vnil ?_
               refine ov (vfa0 1 1) ?_
               refine ost ?_
               refine nx ?_
               refine oas ?_
               refine nq ?_
               refine W.ret ?_
               refine WQ.ret1 Tryz.results119 (.tmp rfl) ?_
               intro w' hp; obtain ⟨e1, e2⟩ := ap_sy (D := D) (m := g.rs.length) (b := b) (by omega) (by omega) (by simpa using g3)
               have e3 : apE D g.rs.length b = 0 := by rw [e1]; simpa using g4
               have e4 : ((g.rs.length : Int) + 1) = (((g.rs ++ [(⟨b54, b.length, c54, r54, b⟩ : RowB)]).length : Nat) : Int) := by simp
               rw [e4] at hp
               rw [e2, e3]; simp only [wrD_n, syD_n] at hp ⊢; exact ⟨⟨o56, g.rs ++ [⟨b54, b.length, c54, r54, b⟩]⟩, ⟨h56, apL_yes (r := ⟨b54, b.length, c54, r54, b⟩) e3⟩, (by first | trivial | rfl), hp.cov cov⟩

end Go.Proofs.YtmeckbjinmgbbaaGreat
/- The journal: its records, one by one. -/
namespace Go.Proofs.YtmeckbjinmgbbaaGreat
open Go.X
theorem GR.rowsL {w0 w : World} {O : List Nat} {L : List (Nat × Blk)} (hp : HP w0 w O L) : ∀ (rs : List RowB), (∀ r ∈ rs, r.l.length = r.n ∧ r.n ≤ r.cap ∧ ∀ x ∈ r.l, 0 ≤ x ∧ x ≤ 255) → (∀ r ∈ rs, r.blk 5 ∈ L) → RowsL w (rs.map RowB.v) (rs.map (·.l))
  | [], _, _ => trivial
  | r :: rs, h, hm => by
    have h0 := h r List.mem_cons_self
    have hs : SrW w 1 (some ⟨r.b, 0, none⟩) r.n (iv .u8 r.l) := HP.sown hp (hm r List.mem_cons_self) iv_one
    exact ⟨⟨some ⟨r.b, 0, none⟩, r.n, r.cap, rfl, h0.2.1, hs, h0.2.2⟩, GR.rowsL hp rs (fun q hq => h q (List.mem_cons_of_mem _ hq)) fun q hq => hm q (List.mem_cons_of_mem _ hq)⟩
theorem GR.flat {w0 w : World} {O : List Nat} {L L' : List (Nat × Blk)} {g : GR} (hp : HP w0 w O L) (hd : DelL (gRL 5 35 g) L L') : HP w0 w O (gL g.o g.rs.length (g.rs.map RowB.v) 35 ++ (g.rs.map (RowB.blk 5) ++ L')) := by
  have := hp.perm hd.perm.symm; unfold gRL at this; rwa [List.append_assoc] at this
theorem GR.two {w0 w : World} {O : List Nat} {L L' : List (Nat × Blk)} {g : GR} (hp : HP w0 w O L) (hg : g.OK) (hd : DelL (gRL 5 35 g) L L' := by exact dell) : SrW w 1 (gA g.o) g.rs.length (g.rs.map RowB.v) ∧ RowsL w (g.rs.map RowB.v) g.ll := by
  have h1 := GR.flat hp hd
  exact ⟨HP.sgr h1 (.here _) (by simp) hg.1 (by simp [Go.X.one]), GR.rowsL h1 g.rs hg.2 fun r hr => List.mem_append_right _ (List.mem_append_left _ (List.mem_map.2 ⟨r, hr, rfl⟩))⟩
theorem GR.row {w0 w : World} {O : List Nat} {L L' : List (Nat × Blk)} {g : GR} {r : RowB} (hp : HP w0 w O L) (hr : r ∈ g.rs) (hd : DelL (gRL 5 35 g) L L' := by exact dell) : SrW w 1 (some ⟨r.b, 0, none⟩) r.n (iv .u8 r.l) :=
  HP.sown (GR.flat hp hd) (List.mem_append_right _ (List.mem_append_left _ (List.mem_map.2 ⟨r, hr, rfl⟩))) iv_one
section
variable {c : Cx} {Q : Post} {S : Slots} {L L' : List (Nat × Blk)} {ty T : TypeId} {x ix : Operand} {i : Nat}
theorem viR {o : Gr} {b cc len cap : Nat} {rs : List Value} {k : IntKind} (ho : o = some (b, cc, rs)) (hx : ev S x = some (.slice (gA o) len cap) := by exact rfl) (hi : ev S ix = some (.int k (i : Int)) := by exact rfl) (hj : i < len := by omega) (ht : slB c.P T 1 = true := by kernel_rfl) : Val c S L (.indexAddr T x ix) ty (.pointer (some ⟨b, i, none⟩)) := by
  subst ho; exact viS0 ht hx hi hj
theorem vldR {g : GR} {b cc : Nat} {rs : List Value} {r : RowB} (ho : g.o = some (b, cc, rs)) (hr : g.rs[i]? = some r) (hg : g.OK) (hd : DelL (gRL 5 35 g) L L' := by exact dell) (ht : scB c.P T = true := by kernel_rfl) (hx : ev S x = some (.pointer (some ⟨b, i, none⟩)) := by exact rfl) : Val c S L (.load T x) ty r.v := by
  have hs : Sr c L 1 (some ⟨b, 0, none⟩) g.rs.length (g.rs.map RowB.v) := fun w hp => by
    have := (GR.two hp hg hd).1
    rwa [ho] at this
  exact V_loadSr (j := i) hs rfl ht hx (by omega) (by rw [List.getElem?_map, hr]; rfl)
end
/-- A row that was laid. -/
structure RowOK (r : RowB) (l : List Int) : Prop where
  e : r.l = l
  n : r.l.length = r.n
  cap : r.n ≤ r.cap
  by_ : bytes r.l

theorem all22_calls (j : Nat) (w : World) :
    Calls Tryz.prog 61 [.pointer (some ⟨j, 0, none⟩)].toArray w fun e w' => ∃ r : Nat, True ∧ e = .returned (.func (.func 102) #[] #[.pointer (some ⟨r, 0, none⟩)]) ∧ HP w w' [] [(r, .cells [(1, [.pointer (some ⟨j, 0, none⟩)])] 78)] := by
 refine calls_of_W Tryz.func61 rfl Tryz.ntmps61 rfl rfl (HP.refl w []) ?_
 refine sr ?_
 refine obx (fun b1 => ?_)
 refine oas ?_
 refine nx ?_
 refine ov V_makeFunc ?_
 refine oas ?_
 refine nq ?_
 refine W.ret ?_
 refine WQ.ret1 Tryz.results61 (.tmp rfl) ?_
 intro w' hp; exact ⟨b1, trivial, rfl, hp.cov cov⟩

theorem alls22_calls (w0 : World) (O : List Nat) (K : DK) (D : DS) (b j : Nat) (g : GR) (hg : g.OK) (hgn : g.rs.length ≤ 64) (hgl : ∀ r ∈ g.rs, r.n ≤ 59) (l D0 : Nat) (fn : FuncId) (tm : Array Value) (ps : Array Tmp) (ac bo : Code) (hps : ps.size = 2) (G : Nat → List (Nat × Blk) → Prop)
    (hround : ∀ (i : Nat) Lx (r : RowB), i < g.rs.length → G i Lx → RowOK r (g.ll.getD i []) → Rd ⟨Tryz.prog, 0, w0, O⟩ l ⟨.ready, none, fn, tm, ps, ac, bo, D0⟩ [.int .i64 i, r.v] (r.blk 5 :: (l, lrec .ready none fn tm ps ac bo D0) :: (D0, dref (some [])) :: (b, .cells [(1, [.pointer (some ⟨j, 0, none⟩)])] 78) :: (j, .cells [(1, [.pointer (some ⟨K.d, 0, none⟩)]), (1, [.int .i64 (g.rs.length : Nat)]), (1, [.int .i64 (D.n : Nat)]), (1, [.slice (gA g.o) g.rs.length (gC g.o)])] 146) :: (Lx ++ gRL 5 35 g)) fun t L' => t = true ∧ ∃ Lx', L' = ((l, lrec .ready none fn tm ps ac bo D0) :: (D0, dref (some [])) :: (b, .cells [(1, [.pointer (some ⟨j, 0, none⟩)])] 78) :: (j, .cells [(1, [.pointer (some ⟨K.d, 0, none⟩)]), (1, [.int .i64 (g.rs.length : Nat)]), (1, [.int .i64 (D.n : Nat)]), (1, [.slice (gA g.o) g.rs.length (gC g.o)])] 146) :: (Lx' ++ gRL 5 35 g)) ∧ G (i + 1) Lx')
    (Lx0 : List (Nat × Blk)) (h0 : G 0 Lx0) (w : World) (hp0 : HP w0 w O ((l, lrec .ready none fn tm ps ac bo D0) :: (D0, dref (some [])) :: (b, .cells [(1, [.pointer (some ⟨j, 0, none⟩)])] 78) :: (j, .cells [(1, [.pointer (some ⟨K.d, 0, none⟩)]), (1, [.int .i64 (g.rs.length : Nat)]), (1, [.int .i64 (D.n : Nat)]), (1, [.slice (gA g.o) g.rs.length (gC g.o)])] 146) :: (Lx0 ++ gRL 5 35 g))) :
    Calls Tryz.prog 102 [.func (.yield l) #[] #[], .pointer (some ⟨b, 0, none⟩)].toArray w (Itd ⟨Tryz.prog, 0, w0, O⟩ l D0 fn tm ps ac bo fun pe L' => pe = none ∧ ∃ Lx', L' = ((b, .cells [(1, [.pointer (some ⟨j, 0, none⟩)])] 78) :: (j, .cells [(1, [.pointer (some ⟨K.d, 0, none⟩)]), (1, [.int .i64 (g.rs.length : Nat)]), (1, [.int .i64 (D.n : Nat)]), (1, [.slice (gA g.o) g.rs.length (gC g.o)])] 146) :: (Lx' ++ gRL 5 35 g)) ∧ G g.rs.length Lx') := by
 refine calls_of_W0 Tryz.func102 rfl Tryz.ntmps102 rfl rfl hp0 ?_
 refine sr ?_
 refine oas ?_
 refine nq ?_
 refine W.block ?_
 -- LOOP 0
 refine W.pick (S' := [(3, _), (0, _), (1, _)]) [3, 0, 1] rfl ?_
 refine W.loopG (σ := Nat × List (Nat × Blk)) (fun ⟨i, Lx⟩ => i ≤ g.rs.length ∧ G i Lx) (fun ⟨i, Lx⟩ => [(3, .int .i64 (i : Nat))]) (fun ⟨i, Lx⟩ => []) [(l, _), (D0, _), (b, _), (j, _)] (fun ⟨i, Lx⟩ => Lx ++ gRL 5 35 g) (fun ⟨i, Lx⟩ => g.rs.length - i) (0, Lx0) rfl cov ⟨Nat.zero_le _, h0⟩ ?_
 rintro ⟨i, Lx⟩ ⟨hi, hG⟩; dsimp only at hi hG ⊢
 refine W.seq ?_
 refine sr ?_
 refine omv ?_
 refine ov vld ?_
 refine ov vnil ?_
 refine ov (vfa 1 1) ?_
 refine ov vld ?_
 refine ov (v2 V_lss) ?_
 refine nq ?_
 refine W.cond_dec rfl (fun g1 => ?_) (fun g1 => ?_)
 · refine W.skip ?_
   refine WQ.then ?_
   refine W.seq ?_
   refine W.block ?_
   refine W.seq ?_
   obtain ⟨gb, gc, grs, hgo, hgc⟩ := GrOK.open hg.1 (by omega)
   obtain ⟨rv, hrv⟩ : ∃ rv, g.rs[i]? = some rv := ⟨_, List.getElem?_eq_getElem (by omega)⟩
   have hrm := List.mem_of_getElem? hrv
   have hrn := hgl rv hrm
   have hrl : g.ll.getD i [] = rv.l := by unfold GR.ll; rw [List.getD_eq_getElem?_getD, List.getElem?_map, hrv]; rfl
   refine W.splitAt 11 ?_
   dsimp only [List.take_succ_cons, List.take_zero]
   refine omv ?_
   refine omv ?_
   refine obsI (k := .u8) 5 1 [] (fun b14 => ?_)
   refine ov vld ?_
   refine ov vnil ?_
   refine ov (vfa 3 1) ?_
   refine ov vld ?_
   refine omv ?_
   refine ov (viR hgo) ?_
   refine ov (vldR hgo hrv hg) ?_
   refine oap0 (k := .u8) (l2 := rv.l) 5 1 (fun b22 c22 r22 h22 => ?_) (hs := fun w hp => GR.row hp hrm) (hb := by omega) (hl := by omega)
   refine WL.toK ?_
   refine wy (Rd.cov (hround i Lx ⟨b22, rv.n, c22, r22, rv.l⟩ (by omega) hG ⟨hrl.symm, (hg.2 rv hrm).1, h22, (hg.2 rv hrm).2.2⟩)) ?_ hps.symm
   rintro _ _ ⟨rfl, Lx', rfl, hG'⟩
   refine WK.restAt 11 ?_
   dsimp only [Nat.reduceAdd, List.drop_succ_cons, List.drop_zero]
   refine ov vnot ?_
   refine WL.endK ?_
   refine WQ.then ?_
   refine W.cond_false rfl rfl ?_
   refine W.skip ?_
   refine WQ.block_normal ?_
   refine WQ.then ?_
   refine W.region ?_
   refine omv ?_
   first | refine ov vaddN ?_ | refine ov vadd ?_
   refine oas ?_
   refine WL.nil ?_
   exact ag (i + 1, Lx') [3, 0, 1] (by (try dsimp only); exact ⟨by omega, hG'⟩) (by (try dsimp only); omega) rfl cov
 · refine W.exit ?_
   refine WQ.then_exit ?_
   refine WQ.then_exit ?_
   refine WQ.block_hit ?_
   refine WQ.ret0 (.inr rfl) Tryz.results102 ?_
   intro w' hp; obtain rfl : i = g.rs.length := by omega
   exact ⟨_, .ready, none, _, rfl, by simp, hp.cov cov, rfl, Lx, rfl, hG⟩

end Go.Proofs.YtmeckbjinmgbbaaGreat
/- The journal: a disk's sectors, one by one. -/
namespace Go.Proofs.YtmeckbjinmgbbaaGreat
open Go.X

theorem sectors22_calls (d : Nat) (w : World) :
    Calls Tryz.prog 59 [.pointer (some ⟨d, 0, none⟩)].toArray w fun e w' => ∃ r : Nat, True ∧ e = .returned (.func (.func 99) #[] #[.pointer (some ⟨r, 0, none⟩)]) ∧ HP w w' [] [(r, .cells [(1, [.pointer (some ⟨d, 0, none⟩)])] 25)] := by
 refine calls_of_W Tryz.func59 rfl Tryz.ntmps59 rfl rfl (HP.refl w []) ?_
 refine sr ?_
 refine obx (fun b1 => ?_)
 refine oas ?_
 refine nx ?_
 refine ov V_makeFunc ?_
 refine oas ?_
 refine nq ?_
 refine W.ret ?_
 refine WQ.ret1 Tryz.results59 (.tmp rfl) ?_
 intro w' hp; exact ⟨b1, trivial, rfl, hp.cov cov⟩

theorem secs22_calls (w0 : World) (O : List Nat) (K : DK) (D : DS) (hok : DOK D) (b : Nat) (l D0 : Nat) (fn : FuncId) (tm : Array Value) (ps : Array Tmp) (ac bo : Code) (hps : ps.size = 2) (G : Nat → List (Nat × Blk) → Prop)
    (hround : ∀ (i : Nat) Lx, i < D.n → G i Lx → Rd ⟨Tryz.prog, 0, w0, O⟩ l ⟨.ready, none, fn, tm, ps, ac, bo, D0⟩ [.int .i64 i, AG [(64, iv .u8 (rdS D i))]] ((l, lrec .ready none fn tm ps ac bo D0) :: (D0, dref (some [])) :: (b, .cells [(1, [.pointer (some ⟨K.d, 0, none⟩)])] 25) :: (K.d, .cells [(1, [.slice (some ⟨K.s, 0, none⟩) D.n D.n]), (1, [.map (some K.m)]), (1, [.int .i64 D.fuse]), (1, [.bool D.dead])] 74) :: (K.s, .cells [(D.n * 64, iv .u8 D.sure.flatten)] 115) :: (K.m, .obj (mapO .i64 (D.m.map sE) D.ck)) :: Lx) fun t L' => t = true ∧ ∃ Lx', L' = ((l, lrec .ready none fn tm ps ac bo D0) :: (D0, dref (some [])) :: (b, .cells [(1, [.pointer (some ⟨K.d, 0, none⟩)])] 25) :: (K.d, .cells [(1, [.slice (some ⟨K.s, 0, none⟩) D.n D.n]), (1, [.map (some K.m)]), (1, [.int .i64 D.fuse]), (1, [.bool D.dead])] 74) :: (K.s, .cells [(D.n * 64, iv .u8 D.sure.flatten)] 115) :: (K.m, .obj (mapO .i64 (D.m.map sE) D.ck)) :: Lx') ∧ G (i + 1) Lx')
    (Lx0 : List (Nat × Blk)) (h0 : G 0 Lx0) (w : World) (hp0 : HP w0 w O ((l, lrec .ready none fn tm ps ac bo D0) :: (D0, dref (some [])) :: (b, .cells [(1, [.pointer (some ⟨K.d, 0, none⟩)])] 25) :: (K.d, .cells [(1, [.slice (some ⟨K.s, 0, none⟩) D.n D.n]), (1, [.map (some K.m)]), (1, [.int .i64 D.fuse]), (1, [.bool D.dead])] 74) :: (K.s, .cells [(D.n * 64, iv .u8 D.sure.flatten)] 115) :: (K.m, .obj (mapO .i64 (D.m.map sE) D.ck)) :: Lx0)) :
    Calls Tryz.prog 99 [.func (.yield l) #[] #[], .pointer (some ⟨b, 0, none⟩)].toArray w (Itd ⟨Tryz.prog, 0, w0, O⟩ l D0 fn tm ps ac bo fun pe L' => pe = none ∧ ∃ Lx', L' = ((b, .cells [(1, [.pointer (some ⟨K.d, 0, none⟩)])] 25) :: (K.d, .cells [(1, [.slice (some ⟨K.s, 0, none⟩) D.n D.n]), (1, [.map (some K.m)]), (1, [.int .i64 D.fuse]), (1, [.bool D.dead])] 74) :: (K.s, .cells [(D.n * 64, iv .u8 D.sure.flatten)] 115) :: (K.m, .obj (mapO .i64 (D.m.map sE) D.ck)) :: Lx') ∧ G D.n Lx') := by
 have hn1 := hok.n1
 have hn64 := hok.n64
 refine calls_of_W0 Tryz.func99 rfl Tryz.ntmps99 rfl rfl hp0 ?_
 refine sr ?_
 refine oas ?_
 refine nq ?_
 refine W.block ?_
 -- LOOP 0
 refine W.pick (S' := [(3, _), (0, _), (1, _)]) [3, 0, 1] rfl ?_
 refine W.loopG (σ := Nat × List (Nat × Blk)) (fun ⟨i, Lx⟩ => i ≤ D.n ∧ G i Lx) (fun ⟨i, Lx⟩ => [(3, .int .i64 (i : Nat))]) (fun ⟨i, Lx⟩ => []) [(l, _), (D0, _), (b, _), (K.d, _), (K.s, _), (K.m, _)] (fun ⟨i, Lx⟩ => Lx) (fun ⟨i, Lx⟩ => D.n - i) (0, Lx0) rfl cov ⟨Nat.zero_le _, h0⟩ ?_
 rintro ⟨i, Lx⟩ ⟨hi, hG⟩; dsimp only at hi hG ⊢; have hsl := (rdS_sec hok (i := i)).1
 refine W.seq ?_
 refine W.block ?_
 refine sr ?_
 refine ov vld ?_
 refine omv ?_
 refine cms rfl (fun w hp => read21_calls K D hok i w (HP.here hp cov)) ?_
 refine omv ?_
 refine ov vex ?_
 refine ov vex ?_
 refine oal [(64, List.replicate 64 (.int .u8 0))] (fun b4 => ?_)
 refine osta 64 ?_
 refine oas ?_
 refine nq ?_
 refine W.seq ?_
 by_cases hin : i < D.n
 · have hre : rdE D i = 0 := by unfold rdE inR; rw [if_pos (by simp; omega)]
   refine W.splitAt 6 ?_
   dsimp only [List.take_succ_cons, List.take_zero]
   refine omv ?_
   refine ov (v2 V_neq) ?_
   refine omv ?_
   refine oy rfl (decide_eq_false (by simp [hre])) ?_
   refine omv ?_
   refine oy rfl (decide_eq_false (by simp [hre])) ?_
   refine omv ?_
   refine oy rfl (decide_eq_false (by simp [hre])) ?_
   refine ov (vlda 64) ?_
   refine WL.toK ?_
   refine wyG (j := 2) (b' := decide (rdE D (i : Int) ≠ 0)) (Rd.cov (hround i Lx hin hG)) ?_ (by exact rfl) (decide_eq_false (by simp [hre])) hps.symm
   rintro _ _ ⟨rfl, Lx', rfl, hG'⟩
   refine WK.restAt 6 ?_
   dsimp only [Nat.reduceAdd, List.drop_succ_cons, List.drop_zero]
   refine oy rfl (decide_eq_false (by simp [hre])) ?_
   refine ov vnot ?_
   refine ov (V_pick_f rfl (decide_eq_false (by simp [hre])) rfl) ?_
   refine WL.endK ?_
   refine WQ.then ?_
   refine W.cond_false rfl rfl ?_
   refine W.skip ?_
   refine WQ.block_normal ?_
   refine WQ.then ?_
   refine W.region ?_
   refine omv ?_
   first | refine ov vaddN ?_ | refine ov vadd ?_
   refine oas ?_
   refine WL.nil ?_
   exact ag (i + 1, Lx') [3, 0, 1] (by (try dsimp only); exact ⟨by omega, hG'⟩) (by (try dsimp only); omega) rfl cov
 · have hre : rdE D i = 1 := by unfold rdE inR; rw [if_neg (by simp; omega)]
   refine W.region ?_
   refine omv ?_
   refine ov (v2 V_neq) ?_
   refine omv ?_
   refine on rfl (decide_eq_true (by simp [hre])) ?_
   refine on rfl (decide_eq_true (by simp [hre])) ?_
   refine on rfl (decide_eq_true (by simp [hre])) ?_
   refine on rfl (decide_eq_true (by simp [hre])) ?_
   refine on rfl (decide_eq_true (by simp [hre])) ?_
   refine ov (V_pick_t rfl (decide_eq_true (by simp [hre])) rfl) ?_
   refine nq ?_
   refine W.cond_true rfl rfl ?_
   refine W.ret ?_
   refine WQ.block_ret ?_
   refine WQ.then_ret ?_
   refine WQ.then_ret ?_
   refine WQ.block_ret ?_
   refine WQ.ret0 (.inl rfl) Tryz.results99 ?_
   intro w' hp; obtain rfl : i = D.n := by omega
   exact ⟨_, .ready, none, _, rfl, by simp, hp.cov cov, rfl, Lx, rfl, hG⟩

end Go.Proofs.YtmeckbjinmgbbaaGreat
/- The journal: Open. -/
namespace Go.Proofs.YtmeckbjinmgbbaaGreat
open Go.X
/-- What was read of the first sectors: whether it goes on, the records. -/
def opG (D : DS) : Nat → Bool × List (List Int)
  | 0 => (true, [])
  | i + 1 => if (opG D i).1 && recI i (rdS D i) then (true, (opG D i).2 ++ [recB (rdS D i)]) else (false, (opG D i).2)
def opL (D : DS) : List (List Int) := (opG D D.n).2
theorem recB_bytes {s : List Int} (h : bytes s) : bytes (recB s) := by
  unfold recB; split
  · exact (h.drop 5).take _
  · exact bytes_nil
theorem op_yes {D : DS} {i : Nat} (h : (opG D i).1 = true) (h2 : recI i (rdS D i) = true) : opG D (i + 1) = (true, (opG D i).2 ++ [recB (rdS D i)]) := by rw [opG, h, h2]; rfl
theorem op_no {D : DS} {i : Nat} (h : (opG D i).1 = true) (h2 : recI i (rdS D i) = false) : opG D (i + 1) = (false, (opG D i).2) := by rw [opG, h, h2]; rfl
theorem op_off {D : DS} {i : Nat} (h : (opG D i).1 = false) : opG D (i + 1) = (false, (opG D i).2) := by rw [opG, h]; rfl
theorem opG_len {D : DS} : ∀ {i : Nat}, (opG D i).2.length ≤ i
  | 0 => Nat.le_refl _
  | i + 1 => by have := opG_len (D := D) (i := i); rw [opG]; split <;> simp <;> omega
theorem opG_ok {D : DS} (hok : DOK D) : ∀ {i : Nat}, ∀ l ∈ (opG D i).2, l.length ≤ 59 ∧ bytes l
  | 0, l, h => by cases h
  | i + 1, l, h => by
    rw [opG] at h
    split at h
    · rcases List.mem_append.1 h with h | h
      · exact opG_ok hok l h
      · rw [List.mem_singleton.1 h]
        refine ⟨recB_le, ?_⟩
        unfold recB; split
        · exact ((rdS_sec hok).2.drop 5).take _
        · exact bytes_nil
    · exact opG_ok hok l h
theorem opL_len {D : DS} : (opL D).length ≤ D.n := opG_len
theorem opL_ok {D : DS} (hok : DOK D) : ∀ l ∈ opL D, l.length ≤ 59 ∧ bytes l := opG_ok hok
/-- The journal that is being opened, when so many sectors were gone through. -/
def OpB (K : DK) (jb b4 b5 : Nat) (i : Nat) (gs : Bool) (g : GR) : List (Nat × Blk) :=
  (jb, .cells [(1, [.pointer (some ⟨K.d, 0, none⟩)]), (1, [.int .i64 0]), (1, [.int .i64 (i : Nat)]), (1, [.slice (gA g.o) g.rs.length (gC g.o)])] 146) :: (b4, .cells [(1, [.pointer (some ⟨jb, 0, none⟩)])] 78) :: (b5, .cells [(1, [.bool gs])] 4) :: gRL 5 35 g
def OpG (D : DS) (K : DK) (jb b4 b5 : Nat) (i : Nat) (Lx : List (Nat × Blk)) : Prop := ∃ (gs : Bool) (g : GR), gs = (opG D i).1 ∧ g.ll = (opG D i).2 ∧ g.OK ∧ Lx = OpB K jb b4 b5 i gs g

theorem open22_calls (K : DK) (D : DS) (hok : DOK D) (w : World) (hd : HP w w [K.d, K.s, K.m] [(K.d, .cells [(1, [.slice (some ⟨K.s, 0, none⟩) D.n D.n]), (1, [.map (some K.m)]), (1, [.int .i64 D.fuse]), (1, [.bool D.dead])] 74), (K.s, .cells [(D.n * 64, iv .u8 D.sure.flatten)] 115), (K.m, .obj (mapO .i64 (D.m.map sE) D.ck))]) :
    Calls Tryz.prog 28 [.pointer (some ⟨K.d, 0, none⟩)].toArray w fun e w' => ∃ r : Nat × GR, (r.2.OK ∧ r.2.ll = opL D) ∧ e = .returned (.tuple #[.pointer (some ⟨r.1, 0, none⟩), .int .i64 0]) ∧ HP w w' (((K.d, .cells [(1, [.slice (some ⟨K.s, 0, none⟩) D.n D.n]), (1, [.map (some K.m)]), (1, [.int .i64 D.fuse]), (1, [.bool D.dead])] 74) :: (K.s, .cells [(D.n * 64, iv .u8 D.sure.flatten)] 115) :: (K.m, .obj (mapO .i64 (D.m.map sE) D.ck)) :: [] : List (Nat × Blk)).map (·.1)) ((K.d, .cells [(1, [.slice (some ⟨K.s, 0, none⟩) D.n D.n]), (1, [.map (some K.m)]), (1, [.int .i64 D.fuse]), (1, [.bool D.dead])] 74) :: (K.s, .cells [(D.n * 64, iv .u8 D.sure.flatten)] 115) :: (K.m, .obj (mapO .i64 (D.m.map sE) D.ck)) :: (r.1, .cells [(1, [.pointer (some ⟨K.d, 0, none⟩)]), (1, [.int .i64 (r.2.rs.length : Nat)]), (1, [.int .i64 (D.n : Nat)]), (1, [.slice (gA r.2.o) r.2.rs.length (gC r.2.o)])] 146) :: gRL 5 35 r.2 : List (Nat × Blk)) := by
 have hn1 := hok.n1
 have hn64 := hok.n64
 refine calls_of_WM Tryz.func28 rfl Tryz.ntmps28 rfl rfl hd ?_
 refine sr ?_
 refine oas ?_
 refine oas ?_
 refine nq ?_
 refine W.seq ?_
 refine sr ?_
 refine omv ?_
 refine ov (V_eqlP (by kernel_rfl) rfl rfl) ?_
 refine nq ?_
 refine W.cond_false rfl rfl ?_
 refine W.skip ?_
 refine WQ.then ?_
 refine sr ?_
 refine omv ?_
 refine ov (V_build (by kernel_rfl) (zi (zs := [(1, [.pointer none]), (1, [.int .i64 0]), (1, [.int .i64 0]), (1, [.slice none 0 0])])) (.one (k := 0) rfl rfl (by kernel_rfl) rfl (.nil _))) ?_
 refine obxa (fun b14 => ?_)
 refine oal [(1, [.pointer none])] (fun b4 => ?_)
 refine ost ?_
 refine nx ?_
 refine oal [(1, [.bool false])] (fun b5 => ?_)
 refine ost ?_
 refine nq ?_
 refine W.ofWI ?_
 refine WI.seq ?_
 refine WI.seq ?_
 refine ireg ?_
 refine omv ?_
 refine cg rfl (fun w hp => sectors22_calls _ w) (fun b16 h16 => ?_)
 refine inl ?_
 refine WIQ.then ?_
 refine WI.block ?_
 refine WI.range (R := fun pe L' => pe = none ∧ ∃ Lx', L' = ((b16, .cells [(1, [.pointer (some ⟨K.d, 0, none⟩)])] 25) :: (K.d, .cells [(1, [.slice (some ⟨K.s, 0, none⟩) D.n D.n]), (1, [.map (some K.m)]), (1, [.int .i64 D.fuse]), (1, [.bool D.dead])] 74) :: (K.s, .cells [(D.n * 64, iv .u8 D.sure.flatten)] 115) :: (K.m, .obj (mapO .i64 (D.m.map sE) D.ck)) :: Lx') ∧ OpG D K b14 b4 b5 D.n Lx') rfl (by kernel_rfl) ?_ ?_ ?_
 · intro fn l D0 tm hsl w1 hp1
   refine secs22_calls w _ K D hok b16 l D0 fn tm _ _ _ rfl (OpG D K b14 b4 b5) ?_ (OpB K b14 b4 b5 0 true GR.nil) ⟨true, GR.nil, rfl, rfl, GR.nil_ok, rfl⟩ w1 (by unfold OpB; exact hp1.cov cov)
   rintro i Lx hi ⟨gs, g, hgs, hgl, hg, rfl⟩
   have hsl2 := (rdS_sec hok (i := i)).1
   have hgn : g.rs.length ≤ i := by rw [← GR.ll_len, hgl]; exact opG_len
   unfold OpB
   refine Rd.n (rd2 hsl rfl rfl ?_)
   refine WI.seq ?_
   refine ireg ?_
   refine oas ?_
   refine inl ?_
   refine WIQ.then ?_
   refine ireg ?_
   refine oal [(64, List.replicate 64 (.int .u8 0))] (fun b7 => ?_)
   refine osta 64 ?_
   refine inl ?_
   refine begins ?_
   refine WI.block ?_
   refine WI.seq ?_
   refine ireg ?_
   refine ov vld ?_
   refine omv ?_
   first | refine ov vaddN ?_ | refine ov vadd ?_
   refine ov vnil ?_
   refine ov (vfa 2 1) ?_
   refine ost ?_
   refine inl ?_
   refine WIQ.then ?_
   refine WI.seq ?_
   refine ireg ?_
   refine omv ?_
   refine ov (vlda 64) ?_
   refine cgG rfl (fun w hp => record22_calls i sc (rdS D i) (rdS_sec hok) w) (fun o27 h27 => ?_)
   refine omv ?_
   refine ov vex ?_
   refine ov vex ?_
   refine oas ?_
   refine oas ?_
   refine inl ?_
   refine WIQ.then ?_
   refine WI.seq ?_
   by_cases hc0 : gs = true
   · subst hc0
     refine ireg ?_
     refine ov vld ?_
     refine omv ?_
     refine oy rfl rfl ?_
     refine omv ?_
     refine ov (V_pick_t rfl rfl rfl) ?_
     refine ost ?_
     refine inl ?_
     refine WIQ.then ?_
     refine WI.seq ?_
     refine ireg ?_
     refine ov vld ?_
     refine inl ?_
     refine WIQ.then ?_
     refine WI.cond rfl (fun g1 => ?_) (fun g1 => ?_)
     · obtain ⟨rb, rc, rr, ho27⟩ : ∃ b c r, o27 = some (b, c, r) := by
         cases o27 with
         | none => exact absurd rfl (h27.2 (by assumption))
         | some q => exact ⟨_, _, _, rfl⟩
       subst ho27
       have hrc : (recB (rdS D i)).length ≤ rc := h27.1
       dsimp only [gL, List.cons_append, List.nil_append]
       refine idr (.q 0 (.q 1 (.q 2 (.q 3 (.q 5 (.l2 4 (.l 6 (.l 7 (.q 8 (.q 9 (.l 10 (.done)))))) 6 (.l 4 (.l 7 (.q 8 (.q 9 (.l 10 (.done)))))))))))) [(b4, _)] ?_
       refine dq rfl vld ?_
       refine dq rfl vld ?_
       refine dq rfl vnil ?_
       refine dq rfl (vfa0 3 1) ?_
       refine dq rfl (V_move rfl) ?_
       refine WD.l2 ?_ ?_
       · refine dv rfl vld ?_
         refine WD.l ?_
         refine dbs rfl 35 24 (fun b41 => ?_)
         refine WD.l ?_
         refine dapR (r := ⟨rb, (recB (rdS D i)).length, rc, rr, recB (rdS D i)⟩) rfl 5 35 24 (fun o42 h42 => ?_) (hr := ⟨rfl, hrc, recB_bytes (rdS_sec hok).2⟩)
         refine dq rfl vnil ?_
         refine dq rfl (vfa0 3 1) ?_
         refine WD.l ?_
         refine dst rfl ?_
         refine idone ?_
         refine WIQ.block_normal ?_
         refine WIQ.cov ((l, lrec .busy none fn tm _ _ _ D0) :: (D0, dref (some [])) :: (b16, .cells [(1, [.pointer (some ⟨K.d, 0, none⟩)])] 25) :: (K.d, .cells [(1, [.slice (some ⟨K.s, 0, none⟩) D.n D.n]), (1, [.map (some K.m)]), (1, [.int .i64 D.fuse]), (1, [.bool D.dead])] 74) :: (K.s, .cells [(D.n * 64, iv .u8 D.sure.flatten)] 115) :: (K.m, .obj (mapO .i64 (D.m.map sE) D.ck)) :: OpB K b14 b4 b5 (i + 1) (recI i (rdS D i)) ⟨o42, g.rs ++ [⟨rb, (recB (rdS D i)).length, rc, rr, recB (rdS D i)⟩]⟩) ?_ (hc := by unfold OpB; exact cov)
         refine endsN ?_
         exact ⟨rfl, _, rfl, (recI i (rdS D i)), ⟨o42, g.rs ++ [⟨rb, (recB (rdS D i)).length, rc, rr, recB (rdS D i)⟩]⟩, (by rw [op_yes hgs.symm g1]; exact g1), (by rw [op_yes hgs.symm g1, ← hgl]; simp [GR.ll]), h42, rfl⟩
       · refine dbs rfl 35 24 (fun b41 => ?_)
         refine WD.l ?_
         refine dv rfl vld ?_
         refine WD.l ?_
         refine dapR (r := ⟨rb, (recB (rdS D i)).length, rc, rr, recB (rdS D i)⟩) rfl 5 35 24 (fun o42 h42 => ?_) (hr := ⟨rfl, hrc, recB_bytes (rdS_sec hok).2⟩)
         refine dq rfl vnil ?_
         refine dq rfl (vfa0 3 1) ?_
         refine WD.l ?_
         refine dst rfl ?_
         refine idone ?_
         refine WIQ.block_normal ?_
         refine WIQ.cov ((l, lrec .busy none fn tm _ _ _ D0) :: (D0, dref (some [])) :: (b16, .cells [(1, [.pointer (some ⟨K.d, 0, none⟩)])] 25) :: (K.d, .cells [(1, [.slice (some ⟨K.s, 0, none⟩) D.n D.n]), (1, [.map (some K.m)]), (1, [.int .i64 D.fuse]), (1, [.bool D.dead])] 74) :: (K.s, .cells [(D.n * 64, iv .u8 D.sure.flatten)] 115) :: (K.m, .obj (mapO .i64 (D.m.map sE) D.ck)) :: OpB K b14 b4 b5 (i + 1) (recI i (rdS D i)) ⟨o42, g.rs ++ [⟨rb, (recB (rdS D i)).length, rc, rr, recB (rdS D i)⟩]⟩) ?_ (hc := by unfold OpB; exact cov)
         refine endsN ?_
         exact ⟨rfl, _, rfl, (recI i (rdS D i)), ⟨o42, g.rs ++ [⟨rb, (recB (rdS D i)).length, rc, rr, recB (rdS D i)⟩]⟩, (by rw [op_yes hgs.symm g1]; exact g1), (by rw [op_yes hgs.symm g1, ← hgl]; simp [GR.ll]), h42, rfl⟩
     · refine WI.skip ?_
       refine WIQ.block_normal ?_
       refine WIQ.cov ((l, lrec .busy none fn tm _ _ _ D0) :: (D0, dref (some [])) :: (b16, .cells [(1, [.pointer (some ⟨K.d, 0, none⟩)])] 25) :: (K.d, .cells [(1, [.slice (some ⟨K.s, 0, none⟩) D.n D.n]), (1, [.map (some K.m)]), (1, [.int .i64 D.fuse]), (1, [.bool D.dead])] 74) :: (K.s, .cells [(D.n * 64, iv .u8 D.sure.flatten)] 115) :: (K.m, .obj (mapO .i64 (D.m.map sE) D.ck)) :: OpB K b14 b4 b5 (i + 1) (recI i (rdS D i)) g) ?_ (hc := by unfold OpB; exact cov)
       refine endsN ?_
       exact ⟨rfl, _, rfl, (recI i (rdS D i)), g, (by rw [op_no hgs.symm g1]; exact g1), (by rw [op_no hgs.symm g1, hgl]), hg, rfl⟩
   · obtain rfl : gs = false := by simpa using hc0
     refine ireg ?_
     refine ov vld ?_
     refine omv ?_
     refine on rfl rfl ?_
     refine ov (V_pick_f rfl rfl rfl) ?_
     refine ost ?_
     refine inl ?_
     refine WIQ.then ?_
     refine WI.seq ?_
     refine ireg ?_
     refine ov vld ?_
     refine inl ?_
     refine WIQ.then ?_
     refine WI.cond_false rfl rfl ?_
     refine WI.skip ?_
     refine WIQ.block_normal ?_
     refine WIQ.cov ((l, lrec .busy none fn tm _ _ _ D0) :: (D0, dref (some [])) :: (b16, .cells [(1, [.pointer (some ⟨K.d, 0, none⟩)])] 25) :: (K.d, .cells [(1, [.slice (some ⟨K.s, 0, none⟩) D.n D.n]), (1, [.map (some K.m)]), (1, [.int .i64 D.fuse]), (1, [.bool D.dead])] 74) :: (K.s, .cells [(D.n * 64, iv .u8 D.sure.flatten)] 115) :: (K.m, .obj (mapO .i64 (D.m.map sE) D.ck)) :: OpB K b14 b4 b5 (i + 1) false g) ?_ (hc := by unfold OpB; exact cov)
     refine endsN ?_
     exact ⟨rfl, _, rfl, false, g, (by rw [op_off hgs.symm]), (by rw [op_off hgs.symm, hgl]), hg, rfl⟩
 · rintro D1 _ ⟨_, _, rfl, gs, g, hgs, hgl, hg, rfl⟩
   unfold OpB
   refine WIQ.block_normal ?_
   refine WIQ.then ?_
   refine WI.seq ?_
   refine idr (.q 0 (.q 1 (.q 2 (.q 3 (.l 4 (.q 5 (.q 6 (.q 7 (.l 8 (.done)))))))))) [(b4, _)] ?_
   refine dq rfl vld ?_
   refine dq rfl vld ?_
   refine dq rfl vnil ?_
   refine dq rfl (vfa0 3 1) ?_
   refine WD.l ?_
   refine dv rfl vld ?_
   refine dq rfl vlenS ?_
   refine dq rfl vnil ?_
   refine dq rfl (vfa0 1 1) ?_
   refine WD.l ?_
   refine dst rfl ?_
   refine idone ?_
   refine WIQ.then ?_
   refine WI.seq ?_
   refine ireg ?_
   refine ov vld ?_
   refine oas ?_
   refine oas ?_
   refine inl ?_
   refine WIQ.then ?_
   refine WI.ret ?_
   refine WIQ.leave2 Tryz.results28 (.tmp rfl) (.tmp rfl) ?_
   intro w' hp; exact ⟨(b14, g), ⟨hg, hgl⟩, rfl, hp.cov cov⟩
 · rintro D1 cd _ ⟨h, _⟩; cases h

end Go.Proofs.YtmeckbjinmgbbaaGreat
/- The journal: all its records. -/
namespace Go.Proofs.YtmeckbjinmgbbaaGreat
open Go.X
theorem snoc_take {ll l : List (List Int)} {i : Nat} (h : l = ll.take i) (hi : i < ll.length) : l ++ [ll.getD i []] = ll.take (i + 1) := by
  rw [h, List.take_succ_eq_append_getElem hi, List.getD_eq_getElem?_getD, List.getElem?_eq_getElem hi]; rfl
end Go.Proofs.YtmeckbjinmgbbaaGreat
/- The journal: the document's answer: Open. -/
namespace Go.Proofs.YtmeckbjinmgbbaaGreat
open Go.X
theorem op_dead {D : DS} {i : Nat} (h : (opG D i).1 = false) : ∀ {k : Nat}, opG D (i + k) = (false, (opG D i).2)
  | 0 => by rw [Nat.add_zero, ← h]
  | k + 1 => by
    have ih := op_dead h (k := k)
    rw [← Nat.add_assoc, op_off (by rw [ih]), ih]
theorem op_stop {D : DS} {i : Nat} (h : (opG D i).1 = true) (h2 : recI i (rdS D i) = false) (hi : i < D.n) : opL D = (opG D i).2 := by
  have e := op_no h h2
  obtain ⟨k, hk⟩ : ∃ k, D.n = (i + 1) + k := ⟨D.n - (i + 1), by omega⟩
  unfold opL
  rw [hk, op_dead (by rw [e]), e]

end Go.Proofs.YtmeckbjinmgbbaaGreat
/- The journal: the document's answer: a record more. -/
namespace Go.Proofs.YtmeckbjinmgbbaaGreat
open Go.X
end Go.Proofs.YtmeckbjinmgbbaaGreat