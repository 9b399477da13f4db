/- Who judges: judged, and appealed. -/
import Derived.Test.YtmeckbjinmgbbaaGreatMod4
set_option linter.unusedVariables false
set_option linter.unusedSimpArgs false

namespace Go.Proofs.YtmeckbjinmgbbaaGreat
open Go.X
/-- What is done: an error, and the reports and who was judged behind it. -/
def juL (e : Int) (i : Nat) (l : List AR) : List AR := if e = 0 then l.take i ++ l.drop (i + 1) else l
def juM (e id : Int) (J : List Ent) (jc : Nat) : List Ent := if e = 0 then mput J jc id (.bool true) else J
def juC (e id : Int) (J : List Ent) (jc : Nat) : Nat := if e = 0 then mclk J jc id else jc
theorem juM_ok {e id : Int} {J : List Ent} {jc : Nat} (h : JOK J) : JOK (juM e id J jc) := by
  unfold juM; split
  · exact h.put
  · exact h
theorem juM_b {e id x : Int} {J : List Ent} {jc : Nat} : jB (juM e id J jc) x = if e = 0 ∧ id = x then true else jB J x := by
  unfold juM; split
  · rename_i h; rw [jB_put]; simp [h]
  · rename_i h; simp [h]
theorem RsOK.cut {rs : List RL} {i : Nat} (h : RsOK rs) : RsOK (rs.take i ++ rs.drop (i + 1)) := ⟨fun m hm => by
  rcases List.mem_append.1 hm with h1 | h1
  · exact h.1 m (List.mem_of_mem_take h1)
  · exact h.1 m (List.mem_of_mem_drop h1), by have := h.2; simp; omega⟩
theorem rl_split {rs : List RL} {i : Nat} {r : RL} (h : rs[i]? = some r) : rs = rs.take i ++ r :: rs.drop (i + 1) := by
  obtain ⟨hj, he⟩ := List.getElem?_eq_some_iff.1 h
  rw [← he, ← List.drop_eq_getElem_cons hj, List.take_append_drop]
theorem at24_none {l : List AR} {id : Int} (h : ridx l id = none) : at24I l id = -1 := by unfold at24I; rw [h]
theorem at24_some {l : List AR} {id : Int} {i : Nat} (h : ridx l id = some i) : at24I l id = (i : Int) := by unfold at24I; rw [h]
theorem judge24_none (M R b jm : Nat) (tk : List Tok) (o : Gr) (rs : List RL) (hg : GrOK o rs.length) (hrs : RsOK rs) (id by' now : Int) (w : World) (hA : AtW w M (modS R b o rs.length jm (tkP tk))) (hs : SrW w 103 (gA o) rs.length (rs.flatMap rlV)) (hy : by' = 1 ∨ by' = 2) (hi : ridx (rs.map (·.1)) id = none) :
    Calls Tryz.prog 11 [.pointer (some ⟨M, 0, none⟩), .int .i64 id, .int .i64 by', .int .i64 now].toArray w fun e w' => e = .returned (.int .i64 7) ∧ HP w w' [] [] := by
 unfold modS at hA
 refine calls_of_W Tryz.func11 rfl Tryz.ntmps11 rfl rfl (HP.refl w []) ?_
 refine sr ?_
 refine oas ?_
 refine nx ?_
 refine oas ?_
 refine nq ?_
 refine W.seq ?_
 refine sr ?_
 refine omv ?_
 refine nq ?_
 refine W.block ?_
 refine W.seq ?_
 by_cases h1 : by' = 1
 · refine W.region ?_
   refine ov (v2 V_eql) ?_
   refine oas ?_
   refine nq ?_
   refine W.cond_true rfl (decide_eq_true h1) ?_
   refine W.region ?_
   refine omv ?_
   refine ov vnil ?_
   refine ov (vfa0 1 1) ?_
   refine ov vld ?_
   refine ov (V_build (by kernel_rfl) (zi (zs := [(1, [.pointer none])])) (.one (k := 0) rfl rfl (by kernel_rfl) rfl (.nil _))) ?_
   refine ov V_mkI ?_
   refine oas ?_
   refine WL.nil ?_
   refine WQ.block_normal ?_
   refine WQ.then ?_
   refine sr ?_
   refine omv ?_
   refine omv ?_
   refine cp rfl (fun w hp => at24_calls M R b jm (tkP tk) o rs hg hrs id w (hA.step hp (by simp)) (hs.old0 w hp)) ?_
   refine oas ?_
   refine nq ?_
   refine W.seq ?_
   refine W.seq ?_
   rw [at24_none hi]
   refine W.region ?_
   refine omv ?_
   refine ov (v2 V_lss) ?_
   refine nq ?_
   refine W.cond_true rfl (by decide) ?_
   refine sr ?_
   refine oas ?_
   refine nq ?_
   refine W.ret ?_
   refine WQ.then_ret ?_
   refine WQ.ret1 Tryz.results11 (.tmp rfl) ?_
   intro w' hp; exact ⟨by first | rfl | (simp; done) | (simp [*]; done) | simp_all, hp.forget⟩
 · refine W.region ?_
   refine ov (v2 V_eql) ?_
   refine oas ?_
   refine nq ?_
   refine W.cond_false rfl (decide_eq_false h1) ?_
   refine sr ?_
   refine ov (v2 V_eql) ?_
   refine oas ?_
   refine nq ?_
   refine W.cond_true rfl (decide_eq_true (hy.resolve_left h1)) ?_
   refine W.region ?_
   refine ov (V_build (by kernel_rfl) (zi (zs := [])) (.nil _)) ?_
   refine ov V_mkI ?_
   refine oas ?_
   refine WL.nil ?_
   refine WQ.block_normal ?_
   refine WQ.then ?_
   refine sr ?_
   refine omv ?_
   refine omv ?_
   refine cp rfl (fun w hp => at24_calls M R b jm (tkP tk) o rs hg hrs id w (hA.step hp (by simp)) (hs.old0 w hp)) ?_
   refine oas ?_
   refine nq ?_
   refine W.seq ?_
   refine W.seq ?_
   rw [at24_none hi]
   refine W.region ?_
   refine omv ?_
   refine ov (v2 V_lss) ?_
   refine nq ?_
   refine W.cond_true rfl (by decide) ?_
   refine sr ?_
   refine oas ?_
   refine nq ?_
   refine W.ret ?_
   refine WQ.then_ret ?_
   refine WQ.ret1 Tryz.results11 (.tmp rfl) ?_
   intro w' hp; exact ⟨by first | rfl | (simp; done) | (simp [*]; done) | simp_all, hp.forget⟩

theorem strike24_at (K : DK) (D : DS) (hok : DOK D) (j : Nat) (g : GR) (hg : g.OK) (hgn : g.rs.length ≤ D.n) (b mb : Nat) (S : LS) (hls : LOK S) (r0 : RL) (hr : RepOK (rlR r0)) (now : Int) (w : World) (hp0 : HP w w (((K.d, .cells [(1, [.slice (some ⟨K.s, 0, none⟩) D.n D.n]), (1, [.map (some K.m)]), (1, [.int .i64 D.fuse]), (1, [.bool D.dead])] 74) :: (K.s, .cells [(D.n * 64, iv .u8 D.sure.flatten)] 115) :: (K.m, .obj (mapO .i64 (D.m.map sE) D.ck)) :: (j, .cells [(1, [.pointer (some ⟨K.d, 0, none⟩)]), (1, [.int .i64 (g.rs.length : Nat)]), (1, [.int .i64 (D.n : Nat)]), (1, [.slice (gA g.o) g.rs.length (gC g.o)])] 146) :: (b, .cells [(1, [.pointer (some ⟨j, 0, none⟩)]), (1, [.map (some mb)])] 110) :: (mb, .obj (mapO .i64 (S.m.map (gE stkV)) S.ck)) :: gRL 5 35 g : List (Nat × Blk)).map (·.1)) ((K.d, .cells [(1, [.slice (some ⟨K.s, 0, none⟩) D.n D.n]), (1, [.map (some K.m)]), (1, [.int .i64 D.fuse]), (1, [.bool D.dead])] 74) :: (K.s, .cells [(D.n * 64, iv .u8 D.sure.flatten)] 115) :: (K.m, .obj (mapO .i64 (D.m.map sE) D.ck)) :: (j, .cells [(1, [.pointer (some ⟨K.d, 0, none⟩)]), (1, [.int .i64 (g.rs.length : Nat)]), (1, [.int .i64 (D.n : Nat)]), (1, [.slice (gA g.o) g.rs.length (gC g.o)])] 146) :: (b, .cells [(1, [.pointer (some ⟨j, 0, none⟩)]), (1, [.map (some mb)])] 110) :: (mb, .obj (mapO .i64 (S.m.map (gE stkV)) S.ck)) :: gRL 5 35 g : List (Nat × Blk))) :
    Calls Tryz.prog 188 [AG [(1, [.pointer (some ⟨b, 0, none⟩)])], AG (rlR r0).V, .int .i64 now].toArray w fun e w' => ∃ r : GR, (r.OK ∧ r.ll = goL D g.ll (adQ S r0.1.st.fr r0.1.id now)) ∧ e = .returned (.int .i64 (stE (goE D g.rs.length (adQ S r0.1.st.fr r0.1.id now)))) ∧ HP w w' (((K.d, .cells [(1, [.slice (some ⟨K.s, 0, none⟩) D.n D.n]), (1, [.map (some K.m)]), (1, [.int .i64 D.fuse]), (1, [.bool D.dead])] 74) :: (K.s, .cells [(D.n * 64, iv .u8 D.sure.flatten)] 115) :: (K.m, .obj (mapO .i64 (D.m.map sE) D.ck)) :: (j, .cells [(1, [.pointer (some ⟨K.d, 0, none⟩)]), (1, [.int .i64 (g.rs.length : Nat)]), (1, [.int .i64 (D.n : Nat)]), (1, [.slice (gA g.o) g.rs.length (gC g.o)])] 146) :: (b, .cells [(1, [.pointer (some ⟨j, 0, none⟩)]), (1, [.map (some mb)])] 110) :: (mb, .obj (mapO .i64 (S.m.map (gE stkV)) S.ck)) :: gRL 5 35 g : List (Nat × Blk)).map (·.1)) ((K.d, .cells [(1, [.slice (some ⟨K.s, 0, none⟩) (goD D g.rs.length (adQ S r0.1.st.fr r0.1.id now)).n (goD D g.rs.length (adQ S r0.1.st.fr r0.1.id now)).n]), (1, [.map (some K.m)]), (1, [.int .i64 (goD D g.rs.length (adQ S r0.1.st.fr r0.1.id now)).fuse]), (1, [.bool (goD D g.rs.length (adQ S r0.1.st.fr r0.1.id now)).dead])] 74) :: (K.s, .cells [((goD D g.rs.length (adQ S r0.1.st.fr r0.1.id now)).n * 64, iv .u8 (goD D g.rs.length (adQ S r0.1.st.fr r0.1.id now)).sure.flatten)] 115) :: (K.m, .obj (mapO .i64 ((goD D g.rs.length (adQ S r0.1.st.fr r0.1.id now)).m.map sE) (goD D g.rs.length (adQ S r0.1.st.fr r0.1.id now)).ck)) :: (j, .cells [(1, [.pointer (some ⟨K.d, 0, none⟩)]), (1, [.int .i64 (r.rs.length : Nat)]), (1, [.int .i64 ((goD D g.rs.length (adQ S r0.1.st.fr r0.1.id now)).n : Nat)]), (1, [.slice (gA r.o) r.rs.length (gC r.o)])] 146) :: (b, .cells [(1, [.pointer (some ⟨j, 0, none⟩)]), (1, [.map (some mb)])] 110) :: (mb, .obj (mapO .i64 ((goS D g.rs.length S (adQ S r0.1.st.fr r0.1.id now)).m.map (gE stkV)) (goS D g.rs.length S (adQ S r0.1.st.fr r0.1.id now)).ck)) :: gRL 5 35 r : List (Nat × Blk)) := strike24_calls K D hok j g hg hgn b mb S hls (rlR r0) hr now w hp0

theorem judge24_strike (K : DK) (D : DS) (hok : DOK D) (j : Nat) (g : GR) (hg : g.OK) (hgn : g.rs.length ≤ D.n) (b mb : Nat) (S : LS) (hls : LOK S) (M jm : Nat) (tk : List Tok) (R : Nat) (o : Gr) (rs : List RL) (hgr : GrOK o rs.length) (hrs : RsOK rs) (J : List Ent) (jc : Nat) (id now : Int) (i : Nat) (hi : ridx (rs.map (·.1)) id = some i) (r0 : RL) (hr : rs[i]? = some r0) (w : World) (hp0 : HP w w (((K.d, .cells [(1, [.slice (some ⟨K.s, 0, none⟩) D.n D.n]), (1, [.map (some K.m)]), (1, [.int .i64 D.fuse]), (1, [.bool D.dead])] 74) :: (K.s, .cells [(D.n * 64, iv .u8 D.sure.flatten)] 115) :: (K.m, .obj (mapO .i64 (D.m.map sE) D.ck)) :: (j, .cells [(1, [.pointer (some ⟨K.d, 0, none⟩)]), (1, [.int .i64 (g.rs.length : Nat)]), (1, [.int .i64 (D.n : Nat)]), (1, [.slice (gA g.o) g.rs.length (gC g.o)])] 146) :: (b, .cells [(1, [.pointer (some ⟨j, 0, none⟩)]), (1, [.map (some mb)])] 110) :: (mb, .obj (mapO .i64 (S.m.map (gE stkV)) S.ck)) :: (M, .cells (modS R b o rs.length jm (tkP tk)) 91) :: (jm, .obj (mapO .i64 J jc)) :: ((gLM 103 o rs.length (rs.flatMap rlV) 69) ++ ((rs.flatMap rbL) ++ gRL 5 35 g)) : List (Nat × Blk)).map (·.1)) ((K.d, .cells [(1, [.slice (some ⟨K.s, 0, none⟩) D.n D.n]), (1, [.map (some K.m)]), (1, [.int .i64 D.fuse]), (1, [.bool D.dead])] 74) :: (K.s, .cells [(D.n * 64, iv .u8 D.sure.flatten)] 115) :: (K.m, .obj (mapO .i64 (D.m.map sE) D.ck)) :: (j, .cells [(1, [.pointer (some ⟨K.d, 0, none⟩)]), (1, [.int .i64 (g.rs.length : Nat)]), (1, [.int .i64 (D.n : Nat)]), (1, [.slice (gA g.o) g.rs.length (gC g.o)])] 146) :: (b, .cells [(1, [.pointer (some ⟨j, 0, none⟩)]), (1, [.map (some mb)])] 110) :: (mb, .obj (mapO .i64 (S.m.map (gE stkV)) S.ck)) :: (M, .cells (modS R b o rs.length jm (tkP tk)) 91) :: (jm, .obj (mapO .i64 J jc)) :: ((gLM 103 o rs.length (rs.flatMap rlV) 69) ++ ((rs.flatMap rbL) ++ gRL 5 35 g)) : List (Nat × Blk))) :
    Calls Tryz.prog 11 [.pointer (some ⟨M, 0, none⟩), .int .i64 id, .int .i64 1, .int .i64 now].toArray w fun e w' => ∃ r : GR × Gr × List RL, ((r.1.OK ∧ r.1.ll = goL D g.ll (adQ S r0.1.st.fr r0.1.id now)) ∧ GrOK r.2.1 r.2.2.length ∧ RsOK r.2.2 ∧ r.2.2.map (·.1) = juL (stE (goE D g.rs.length (adQ S r0.1.st.fr r0.1.id now))) i (rs.map (·.1))) ∧ e = .returned (.int .i64 (stE (goE D g.rs.length (adQ S r0.1.st.fr r0.1.id now)))) ∧ HP w w' (((K.d, .cells [(1, [.slice (some ⟨K.s, 0, none⟩) D.n D.n]), (1, [.map (some K.m)]), (1, [.int .i64 D.fuse]), (1, [.bool D.dead])] 74) :: (K.s, .cells [(D.n * 64, iv .u8 D.sure.flatten)] 115) :: (K.m, .obj (mapO .i64 (D.m.map sE) D.ck)) :: (j, .cells [(1, [.pointer (some ⟨K.d, 0, none⟩)]), (1, [.int .i64 (g.rs.length : Nat)]), (1, [.int .i64 (D.n : Nat)]), (1, [.slice (gA g.o) g.rs.length (gC g.o)])] 146) :: (b, .cells [(1, [.pointer (some ⟨j, 0, none⟩)]), (1, [.map (some mb)])] 110) :: (mb, .obj (mapO .i64 (S.m.map (gE stkV)) S.ck)) :: (M, .cells (modS R b o rs.length jm (tkP tk)) 91) :: (jm, .obj (mapO .i64 J jc)) :: ((gLM 103 o rs.length (rs.flatMap rlV) 69) ++ ((rs.flatMap rbL) ++ gRL 5 35 g)) : List (Nat × Blk)).map (·.1)) ((K.d, .cells [(1, [.slice (some ⟨K.s, 0, none⟩) (goD D g.rs.length (adQ S r0.1.st.fr r0.1.id now)).n (goD D g.rs.length (adQ S r0.1.st.fr r0.1.id now)).n]), (1, [.map (some K.m)]), (1, [.int .i64 (goD D g.rs.length (adQ S r0.1.st.fr r0.1.id now)).fuse]), (1, [.bool (goD D g.rs.length (adQ S r0.1.st.fr r0.1.id now)).dead])] 74) :: (K.s, .cells [((goD D g.rs.length (adQ S r0.1.st.fr r0.1.id now)).n * 64, iv .u8 (goD D g.rs.length (adQ S r0.1.st.fr r0.1.id now)).sure.flatten)] 115) :: (K.m, .obj (mapO .i64 ((goD D g.rs.length (adQ S r0.1.st.fr r0.1.id now)).m.map sE) (goD D g.rs.length (adQ S r0.1.st.fr r0.1.id now)).ck)) :: (j, .cells [(1, [.pointer (some ⟨K.d, 0, none⟩)]), (1, [.int .i64 (r.1.rs.length : Nat)]), (1, [.int .i64 ((goD D g.rs.length (adQ S r0.1.st.fr r0.1.id now)).n : Nat)]), (1, [.slice (gA r.1.o) r.1.rs.length (gC r.1.o)])] 146) :: (b, .cells [(1, [.pointer (some ⟨j, 0, none⟩)]), (1, [.map (some mb)])] 110) :: (mb, .obj (mapO .i64 ((goS D g.rs.length S (adQ S r0.1.st.fr r0.1.id now)).m.map (gE stkV)) (goS D g.rs.length S (adQ S r0.1.st.fr r0.1.id now)).ck)) :: (M, .cells (modS R b r.2.1 r.2.2.length jm (tkP tk)) 91) :: (jm, .obj (mapO .i64 (juM (stE (goE D g.rs.length (adQ S r0.1.st.fr r0.1.id now))) id J jc) (juC (stE (goE D g.rs.length (adQ S r0.1.st.fr r0.1.id now))) id J jc))) :: ((gLM 103 r.2.1 r.2.2.length (r.2.2.flatMap rlV) 69) ++ ((r.2.2.flatMap rbL) ++ gRL 5 35 r.1)) : List (Nat × Blk)) := by
 have hn1 := hok.n1
 have hn64 := hok.n64
 unfold modS
 have hl8 := hrs.2
 have hil : i < rs.length := (List.getElem?_eq_some_iff.1 hr).1
 obtain ⟨gb, gc, grs, hgo, hgc⟩ := gr_open24 hgr (by omega)
 have hrk := hrs.1 r0 (List.mem_of_getElem? hr)
 have h103 := rls_len hrs.1
 refine calls_of_W Tryz.func11 rfl Tryz.ntmps11 rfl rfl hp0 ?_
 refine sr ?_
 refine oas ?_
 refine nx ?_
 refine oas ?_
 refine nq ?_
 refine W.seq ?_
 refine sr ?_
 refine omv ?_
 refine nq ?_
 refine W.block ?_
 refine sr ?_
 refine ov (v2 V_eql) ?_
 refine oas ?_
 refine nq ?_
 refine W.cond_true rfl rfl ?_
 refine W.region ?_
 refine omv ?_
 refine ov vnil ?_
 refine ov (vfa0 1 1) ?_
 refine ov vld ?_
 refine ov (V_build (by kernel_rfl) (zi (zs := [(1, [.pointer none])])) (.one (k := 0) rfl rfl (by kernel_rfl) rfl (.nil _))) ?_
 refine ov V_mkI ?_
 refine oas ?_
 refine WL.nil ?_
 refine WQ.block_normal ?_
 refine WQ.then ?_
 refine sr ?_
 refine omv ?_
 refine omv ?_
 refine cp rfl (fun w hp => at24_calls M R b jm (tkP tk) o rs hgr hrs id w hat (rlsS hp hgr hrs.1)) ?_
 refine oas ?_
 refine nq ?_
 refine W.seq ?_
 refine W.seq ?_
 rw [at24_some hi]
 refine W.region ?_
 refine omv ?_
 refine ov (v2 V_lss) ?_
 refine nq ?_
 refine W.cond_false rfl (decide_eq_false (by omega)) ?_
 refine W.skip ?_
 refine WQ.then ?_
 refine W.seq ?_
 refine W.seq ?_
 subst hgo
 rw [show gLM 103 (some (gb, gc, grs)) rs.length (rs.flatMap rlV) 69 = [(gb, .cells [(rs.length * 103, rs.flatMap rlV), ((gc - rs.length) * 103, grs)] 69)] from rfl]
 simp only [List.cons_append, List.nil_append]
 refine dr (.q 0 (.q 1 (.q 2 (.q 3 (.q 4 (.q 5 (.q 6 (.q 7 (.q 8 (.q 9 (.q 10 (.q 11 (.l 12 (.q 13 (.done))))))))))))))) [(M, _), (gb, _)] ?_
 refine dq rfl (V_move rfl) ?_
 refine dq rfl (V_move rfl) ?_
 refine dq rfl vnil ?_
 refine dq rfl (vfa0 2 1) ?_
 refine dq rfl vld ?_
 refine dq rfl (V_move rfl) ?_
 refine dq rfl (viGR 103 rfl) ?_
 refine dq rfl (vldOAs' (ds := (rlR r0).V) 103 i (fun x hx => rlV_len (hrs.1 x hx)) (fun w hp => (HP.sown hp (b := gb) (by repeat (first | exact List.Mem.head _ | apply List.Mem.tail)) rlV_one).mul) hr rfl) ?_
 refine dq rfl (V_move rfl) ?_
 refine dq rfl V_makeFunc ?_
 refine dq rfl (V_nilM 188) ?_
 refine dq rfl (V_move rfl) ?_
 refine WD.l ?_
 refine dcgPI _ 188 rfl rfl rfl (fun w hp => strike24_at K D hok j g hg hgn b mb S hls r0 hrk.ok now w (HP.here hp cov)) (fun r42 h42 => ?_)
 simp only [List.cons_append, List.nil_append, List.append_nil, List.append_assoc]
 refine WD.back (gRL 5 35 r42) ?_
 simp only [List.cons_append, List.nil_append, List.append_nil, List.append_assoc]
 refine dq rfl (V_assign rfl) ?_
 refine WD.done ?_
 refine WQ.then ?_
 refine sr ?_
 refine omv ?_
 refine ov (v2 V_neq) ?_
 refine nq ?_
 refine W.cond_dec rfl (fun g1 => ?_) (fun g1 => ?_)
 · refine W.seq ?_
   refine W.region ?_
   refine omv ?_
   refine oas ?_
   refine nq ?_
   refine W.ret ?_
   refine WQ.then_ret ?_
   refine WQ.ret1 Tryz.results11 (.tmp rfl) ?_
   intro w' hp; have he : ¬ (stE (goE D g.rs.length (adQ S r0.1.st.fr r0.1.id now))) = 0 := by simpa using g1
   refine ⟨(r42, some (gb, gc, grs), rs), ⟨h42, hgr, hrs, ?_⟩, rfl, ?_⟩
   · unfold juL; rw [if_neg he]
   · unfold juM juC; rw [if_neg he, if_neg he]; simp only [gLM, List.cons_append, List.nil_append]; exact hp.cov cov
 · refine W.skip ?_
   refine WQ.then ?_
   refine W.seq ?_
   rw [show rs.flatMap rbL = (rs.take i).flatMap rbL ++ (rbL r0 ++ (rs.drop (i + 1)).flatMap rbL) from by conv => lhs; rw [rl_split hr, List.flatMap_append, List.flatMap_cons]]
   simp only [List.append_assoc]
   refine W.region ?_
   refine omv ?_
   refine omv ?_
   refine ov vnil ?_
   refine ov (vfa0 2 1) ?_
   refine ov vld ?_
   refine omv ?_
   refine omv ?_
   first | refine ov vaddN ?_ | refine ov vadd ?_
   refine cg rfl (fun w hp => del24_calls gb rs.length gc i (rs.flatMap rlV) grs hil hgc (by omega) h103 rlV_one w (HP.here hp cov)) (fun b54 h54 => ?_)
   refine ov vnil ?_
   refine ov (vfa0 2 1) ?_
   refine ost ?_
   refine nx ?_
   refine omv ?_
   refine ov vnil ?_
   refine ov (vfa0 3 1) ?_
   refine ov vld ?_
   refine omv ?_
   refine omu ?_
   refine nx ?_
   refine oas ?_
   refine nq ?_
   refine W.ret ?_
   refine WQ.ret1 Tryz.results11 (.tmp rfl) ?_
   intro w' hp; have he : (stE (goE D g.rs.length (adQ S r0.1.st.fr r0.1.id now))) = 0 := by simpa using g1
   refine ⟨(r42, some (gb, gc, b54), rs.take i ++ rs.drop (i + 1)), ⟨h42, ?_, hrs.cut, ?_⟩, ?_, ?_⟩
   · show _ ≤ gc; have := hrs.cut (i := i); simp; omega
   · unfold juL; rw [if_pos he]; simp [List.map_take, List.map_drop]
   · rw [he]
   · unfold juM juC; rw [if_pos he, if_pos he]; rw [flatMap_take' (fun m hm => rlV_len (hrs.1 m hm)), flatMap_drop' (fun m hm => rlV_len (hrs.1 m hm)), ← List.flatMap_append] at hp; have hnl : rs.length - 1 = (rs.take i ++ rs.drop (i + 1)).length := by simp; omega
     rw [hnl] at hp; dsimp only; rw [List.flatMap_append (f := rbL)]; simp only [List.append_assoc]; exact hp.cov cov

end Go.Proofs.YtmeckbjinmgbbaaGreat