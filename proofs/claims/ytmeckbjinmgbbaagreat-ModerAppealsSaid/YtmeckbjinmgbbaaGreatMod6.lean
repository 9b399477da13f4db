/- Who judges: appeals. -/
import Derived.Test.YtmeckbjinmgbbaaGreatMod5
set_option linter.unusedVariables false
set_option linter.unusedSimpArgs false

namespace Go.Proofs.YtmeckbjinmgbbaaGreat
open Go.X
/-- Whether a strike may be appealed. -/
def apT (S : LS) (a id : Int) : Int := match S.get id with
  | none => 7
  | some s => if s.a ≠ a then 7 else if s.c = true then 5 else 0
def apQ (S : LS) (t n a id now : Int) : Ask := if apT S a id ≠ 0 then .inl (apT S a id) else if takeE 2 50 t n now ≠ 0 then .inl (takeE 2 50 t n now) else clQ S id now
def apX (S : LS) (t n a id now : Int) : Int × Int := if apT S a id ≠ 0 then (t, n) else (takeT t now, takeN 2 50 t n now)
section
variable {S : LS} {t n a id now : Int} {s : Stk}
theorem apT_none (h : S.get id = none) : apT S a id = 7 := by unfold apT; rw [h]
theorem apT_other (h : S.get id = some s) (h2 : ¬ s.a = a) : apT S a id = 7 := by unfold apT; rw [h]; exact if_pos h2
theorem apT_old (h : S.get id = some s) (h2 : s.a = a) (h3 : s.c = true) : apT S a id = 5 := by unfold apT; rw [h]; dsimp only; rw [if_neg (by simpa using h2), if_pos h3]
theorem apT_ok (h : S.get id = some s) (h2 : s.a = a) (h3 : ¬ s.c = true) : apT S a id = 0 := by unfold apT; rw [h]; dsimp only; rw [if_neg (by simpa using h2), if_neg h3]
theorem apQ_no {e : Int} (h : apT S a id = e) (h2 : e ≠ 0) : apQ S t n a id now = .inl e ∧ apX S t n a id now = (t, n) := by
  unfold apQ apX; rw [h, if_pos h2, if_pos h2]; exact ⟨rfl, rfl⟩
theorem apQ_rate (h : apT S a id = 0) (h2 : ¬ takeE 2 50 t n now = 0) : apQ S t n a id now = .inl (takeE 2 50 t n now) ∧ apX S t n a id now = (takeT t now, takeN 2 50 t n now) := by
  unfold apQ apX; rw [h, if_neg (by simp), if_pos h2, if_neg (by simp)]; exact ⟨rfl, rfl⟩
theorem apQ_ok (h : apT S a id = 0) (h2 : takeE 2 50 t n now = 0) : apQ S t n a id now = clQ S id now ∧ apX S t n a id now = (takeT t now, takeN 2 50 t n now) := by
  unfold apQ apX; rw [h, if_neg (by simp), if_neg (by simpa using h2), if_neg (by simp)]; exact ⟨rfl, rfl⟩
end

theorem appeal24_calls (K : DK) (D : DS) (hok : DOK D) (j : Nat) (g : GR) (hg : g.OK) (hgn : g.rs.length ≤ D.n) (b mb : Nat) (S : LS) (hls : LOK S) (M jm R n0 : Nat) (o : Gr) (tk : List Tok) (a id now : Int) (ha : 0 ≤ a ∧ a < 8) (p : Nat) (t n : Int) (hx : tk[a.toNat]? = some (p, t, n)) (hk : OkB 2 50 t n) (w : World) (hp0 : HP w w (((K.d, .cells [(1, [.slice (some ⟨K.s, 0, none⟩) D.n D.n]), (1, [.map (some K.m)]), (1, [.int .i64 D.fuse]), (1, [.bool D.dead])] 74) :: (K.s, .cells [(D.n * 64, iv .u8 D.sure.flatten)] 115) :: (K.m, .obj (mapO .i64 (D.m.map sE) D.ck)) :: (j, .cells [(1, [.pointer (some ⟨K.d, 0, none⟩)]), (1, [.int .i64 (g.rs.length : Nat)]), (1, [.int .i64 (D.n : Nat)]), (1, [.slice (gA g.o) g.rs.length (gC g.o)])] 146) :: (b, .cells [(1, [.pointer (some ⟨j, 0, none⟩)]), (1, [.map (some mb)])] 110) :: (mb, .obj (mapO .i64 (S.m.map (gE stkV)) S.ck)) :: (M, .cells (modS R b o n0 jm (tkP tk)) 91) :: (p, .cells (bkt 2 50 t n) 182) :: gRL 5 35 g : List (Nat × Blk)).map (·.1)) ((K.d, .cells [(1, [.slice (some ⟨K.s, 0, none⟩) D.n D.n]), (1, [.map (some K.m)]), (1, [.int .i64 D.fuse]), (1, [.bool D.dead])] 74) :: (K.s, .cells [(D.n * 64, iv .u8 D.sure.flatten)] 115) :: (K.m, .obj (mapO .i64 (D.m.map sE) D.ck)) :: (j, .cells [(1, [.pointer (some ⟨K.d, 0, none⟩)]), (1, [.int .i64 (g.rs.length : Nat)]), (1, [.int .i64 (D.n : Nat)]), (1, [.slice (gA g.o) g.rs.length (gC g.o)])] 146) :: (b, .cells [(1, [.pointer (some ⟨j, 0, none⟩)]), (1, [.map (some mb)])] 110) :: (mb, .obj (mapO .i64 (S.m.map (gE stkV)) S.ck)) :: (M, .cells (modS R b o n0 jm (tkP tk)) 91) :: (p, .cells (bkt 2 50 t n) 182) :: gRL 5 35 g : List (Nat × Blk))) :
    Calls Tryz.prog 12 [.pointer (some ⟨M, 0, none⟩), .int .i64 a, .int .i64 id, .int .i64 now].toArray w fun e w' => ∃ r : GR, (r.OK ∧ r.ll = goL D g.ll (apQ S t n a id now)) ∧ e = .returned (.int .i64 (goE D g.rs.length (apQ S t n a id now))) ∧ HP w w' (((K.d, .cells [(1, [.slice (some ⟨K.s, 0, none⟩) D.n D.n]), (1, [.map (some K.m)]), (1, [.int .i64 D.fuse]), (1, [.bool D.dead])] 74) :: (K.s, .cells [(D.n * 64, iv .u8 D.sure.flatten)] 115) :: (K.m, .obj (mapO .i64 (D.m.map sE) D.ck)) :: (j, .cells [(1, [.pointer (some ⟨K.d, 0, none⟩)]), (1, [.int .i64 (g.rs.length : Nat)]), (1, [.int .i64 (D.n : Nat)]), (1, [.slice (gA g.o) g.rs.length (gC g.o)])] 146) :: (b, .cells [(1, [.pointer (some ⟨j, 0, none⟩)]), (1, [.map (some mb)])] 110) :: (mb, .obj (mapO .i64 (S.m.map (gE stkV)) S.ck)) :: (M, .cells (modS R b o n0 jm (tkP tk)) 91) :: (p, .cells (bkt 2 50 t n) 182) :: gRL 5 35 g : List (Nat × Blk)).map (·.1)) ((K.d, .cells [(1, [.slice (some ⟨K.s, 0, none⟩) (goD D g.rs.length (apQ S t n a id now)).n (goD D g.rs.length (apQ S t n a id now)).n]), (1, [.map (some K.m)]), (1, [.int .i64 (goD D g.rs.length (apQ S t n a id now)).fuse]), (1, [.bool (goD D g.rs.length (apQ S t n a id now)).dead])] 74) :: (K.s, .cells [((goD D g.rs.length (apQ S t n a id now)).n * 64, iv .u8 (goD D g.rs.length (apQ S t n a id now)).sure.flatten)] 115) :: (K.m, .obj (mapO .i64 ((goD D g.rs.length (apQ S t n a id now)).m.map sE) (goD D g.rs.length (apQ S t n a id now)).ck)) :: (j, .cells [(1, [.pointer (some ⟨K.d, 0, none⟩)]), (1, [.int .i64 (r.rs.length : Nat)]), (1, [.int .i64 ((goD D g.rs.length (apQ S t n a id now)).n : Nat)]), (1, [.slice (gA r.o) r.rs.length (gC r.o)])] 146) :: (b, .cells [(1, [.pointer (some ⟨j, 0, none⟩)]), (1, [.map (some mb)])] 110) :: (mb, .obj (mapO .i64 ((goS D g.rs.length S (apQ S t n a id now)).m.map (gE stkV)) (goS D g.rs.length S (apQ S t n a id now)).ck)) :: (M, .cells (modS R b o n0 jm (tkP tk)) 91) :: (p, .cells (bkt 2 50 (apX S t n a id now).1 (apX S t n a id now).2) 182) :: gRL 5 35 r : List (Nat × Blk)) := by
 have hn1 := hok.n1
 have hn64 := hok.n64
 have hx2 : (tkP tk)[a.toNat]? = some p := by unfold tkP; rw [List.getElem?_map, hx]; rfl
 unfold modS
 refine calls_of_W Tryz.func12 rfl Tryz.ntmps12 rfl rfl hp0 ?_
 refine sr ?_
 refine oas ?_
 refine nq ?_
 refine W.seq ?_
 refine sr ?_
 refine omv ?_
 refine ov (v2 V_lss) ?_
 refine omv ?_
 refine oy rfl (decide_eq_false (by omega)) ?_
 refine omv ?_
 refine oy rfl (decide_eq_false (by omega)) ?_
 refine ov (v2 V_geq) ?_
 refine ov (V_pick_f rfl (decide_eq_false (by omega)) rfl) ?_
 refine nq ?_
 refine W.cond_false rfl (decide_eq_false (by omega)) ?_
 refine W.skip ?_
 refine WQ.then ?_
 refine W.seq ?_
 by_cases hq : ∃ s, S.get id = some s
 · obtain ⟨s, hq⟩ := hq
   have hsb := hls.get hq
   obtain ⟨e1, e2⟩ := ofS_some hq
   refine W.region ?_
   refine omv ?_
   refine ov vnil ?_
   refine ov (vfa0 1 1) ?_
   refine ov vld ?_
   refine omv ?_
   refine cms rfl (fun w hp => of23_calls b mb j S hls id w (HP.here hp cov)) ?_
   refine omv ?_
   refine ov vex ?_
   refine ov vex ?_
   refine ov vex ?_
   refine oas ?_
   refine oas ?_
   refine oas ?_
   refine nq ?_
   refine W.seq ?_
   refine W.block ?_
   refine W.seq ?_
   rw [e1, e2]
   refine W.region ?_
   refine omv ?_
   refine ov vnot ?_
   refine omv ?_
   refine oy rfl rfl ?_
   refine omv ?_
   refine oy rfl rfl ?_
   refine omv ?_
   refine oy rfl rfl ?_
   refine ov (v2 V_neq) ?_
   refine ov (V_pick_f rfl rfl rfl) ?_
   refine oas ?_
   refine nq ?_
   refine W.cond_dec rfl (fun g1 => ?_) (fun g1 => ?_)
   · refine W.seq ?_
     refine W.region ?_
     refine oas ?_
     refine nq ?_
     refine W.ret ?_
     refine WQ.block_ret ?_
     refine WQ.then_ret ?_
     refine WQ.ret1 Tryz.results12 (.tmp rfl) ?_
     intro w' hp; obtain ⟨e1, e2⟩ := apQ_no (t := t) (n := n) (now := now) (apT_other (a := a) hq (by simp_all)) (by decide)
     rw [e1, e2]; exact ⟨g, ⟨hg, rfl⟩, rfl, hp.cov cov⟩
   · refine W.seq ?_
     refine W.region ?_
     refine omv ?_
     refine oas ?_
     refine nq ?_
     refine W.cond rfl (fun g2 => ?_) (fun g2 => ?_)
     · refine W.seq ?_
       refine W.region ?_
       refine oas ?_
       refine nq ?_
       refine W.ret ?_
       refine WQ.block_ret ?_
       refine WQ.then_ret ?_
       refine WQ.ret1 Tryz.results12 (.tmp rfl) ?_
       intro w' hp; obtain ⟨e1, e2⟩ := apQ_no (t := t) (n := n) (now := now) (apT_old (a := a) hq (by simp_all) (by simp_all)) (by decide)
       rw [e1, e2]; exact ⟨g, ⟨hg, rfl⟩, rfl, hp.cov cov⟩
     · refine W.skip ?_
       refine WQ.block_normal ?_
       refine WQ.then ?_
       refine W.seq ?_
       refine sr ?_
       refine omv ?_
       refine omv ?_
       refine ov vnil ?_
       refine ov (vfa0 4 8) ?_
       first | refine ov (viAP 8) ?_ | refine ov (viAPZ 8) ?_
       refine ov (vldTk (k := a.toNat) (q := p) hx2) ?_
       refine omv ?_
       refine cm rfl (fun w hp => take_calls p 2 50 t n now 182 w (hh hp) hk) ?_
       refine oas ?_
       refine nx ?_
       refine omv ?_
       refine ov (v2 V_neq) ?_
       refine nq ?_
       refine W.cond_dec rfl (fun g3 => ?_) (fun g3 => ?_)
       · refine W.seq ?_
         refine W.region ?_
         refine omv ?_
         refine oas ?_
         refine nq ?_
         refine W.ret ?_
         refine WQ.then_ret ?_
         refine WQ.ret1 Tryz.results12 (.tmp rfl) ?_
         intro w' hp; obtain ⟨e1, e2⟩ := apQ_rate (t := t) (n := n) (now := now) (apT_ok (a := a) hq (by simp_all) (by simp_all)) (by simp_all)
         rw [e1, e2]; exact ⟨g, ⟨hg, rfl⟩, rfl, hp.cov cov⟩
       · refine W.skip ?_
         refine WQ.then ?_
         refine sr ?_
         refine omv ?_
         refine ov vnil ?_
         refine ov (vfa0 1 1) ?_
         refine ov vld ?_
         refine omv ?_
         refine omv ?_
         refine cgP _ rfl (fun w hp => clear23_calls K D hok j g hg hgn b mb S hls id now w (HP.here hp cov)) (fun r56 h56 => ?_)
         simp only [List.cons_append, List.nil_append, List.append_nil, List.append_assoc]
         refine WL.back (gRL 5 35 r56) ?_
         simp only [List.cons_append, List.nil_append, List.append_nil, List.append_assoc]
         refine oas ?_
         refine nq ?_
         refine W.ret ?_
         refine WQ.ret1 Tryz.results12 (.tmp rfl) ?_
         intro w' hp; obtain ⟨e1, e2⟩ := apQ_ok (t := t) (n := n) (now := now) (apT_ok (a := a) hq (by simp_all) (by simp_all)) (by simp_all)
         rw [e1, e2]; exact ⟨r56, h56, rfl, hp.cov cov⟩
 · have hq : S.get id = none := by cases hx : S.get id with | none => rfl | some s => exact absurd ⟨s, hx⟩ hq
   obtain ⟨e1, e2⟩ := ofS_none hq
   refine W.region ?_
   refine omv ?_
   refine ov vnil ?_
   refine ov (vfa0 1 1) ?_
   refine ov vld ?_
   refine omv ?_
   refine cms rfl (fun w hp => of23_calls b mb j S hls id w (HP.here hp cov)) ?_
   refine omv ?_
   refine ov vex ?_
   refine ov vex ?_
   refine ov vex ?_
   refine oas ?_
   refine oas ?_
   refine oas ?_
   refine nq ?_
   refine W.seq ?_
   refine W.block ?_
   refine W.seq ?_
   rw [e1, e2]
   refine W.region ?_
   refine omv ?_
   refine ov vnot ?_
   refine omv ?_
   refine on rfl rfl ?_
   refine on rfl rfl ?_
   refine on rfl rfl ?_
   refine ov (V_pick_t rfl rfl rfl) ?_
   refine oas ?_
   refine nq ?_
   refine W.cond_true rfl rfl ?_
   refine sr ?_
   refine oas ?_
   refine nq ?_
   refine W.ret ?_
   refine WQ.block_ret ?_
   refine WQ.then_ret ?_
   refine WQ.ret1 Tryz.results12 (.tmp rfl) ?_
   intro w' hp; obtain ⟨e1, e2⟩ := apQ_no (t := t) (n := n) (now := now) (apT_none (a := a) hq) (by decide)
   rw [e1, e2]; exact ⟨g, ⟨hg, rfl⟩, rfl, hp.cov cov⟩

end Go.Proofs.YtmeckbjinmgbbaaGreat