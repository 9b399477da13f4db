/- Who judges: reports taken in. -/
import Derived.Test.YtmeckbjinmgbbaaGreatMod2
set_option linter.unusedVariables false
set_option linter.unusedSimpArgs false

namespace Go.Proofs.YtmeckbjinmgbbaaGreat
open Go.X
def rdA (l : List Int) : AR := ⟨(repRd none l).id, (repRd none l).who, repTx l, (repRd none l).op, (repRd none l).st⟩
theorem rdA_rd {l : List Int} {o : Gr} (h : repE l = 0) : repRd o l = rlR (rdA l, o) := by
  unfold rlR rdA repTx repRd
  simp only [if_pos h]; rfl
theorem rdA_ok {l : List Int} {o : Gr} (hb : bytes l) (h : repE l = 0) (ho : GrOK o (rdA l).tl.length) : RepOK (rlR (rdA l, o)) := by
  rw [← rdA_rd h]; exact (repRd_ok hb ho).1
theorem repChk_o {root : List Int} {a : AR} {o : Gr} {t now : Int} : repChk root t (rlR (a, o)) now = repChk root t (rlR (a, none)) now := rfl
theorem repChk_rB {root : List Int} {r : RepS} {t now : Int} (h : repChk root t r now = 0) : rB r = true := by
  unfold repChk at h
  split at h
  · rename_i h1; exact h1.1
  · cases h
theorem readA_calls (A : Option Addr) (n cap : Nat) (l : List Int) (w : World) (hs : SrW w 1 A n (iv .u8 l)) (hb : bytes l) (hn : n ≤ cap) (hn2 : n ≤ 1000000) (h : repE l = 0) :
    Calls Tryz.prog 31 [.slice A n cap].toArray w fun e w' => ∃ o : Gr, GrOK o (rdA l).tl.length ∧ e = .returned (.tuple #[AG (rlR (rdA l, o)).V, .int .i64 0]) ∧ HP w w' [] (gL o (rdA l).tl.length (iv .u8 (rdA l).tl) 5) :=
  (repread_calls A n cap l w hs hb hn hn2).mono fun e w' ⟨o, h1, h2, h3⟩ => ⟨o, h1, by rw [h2, rdA_rd h, h], h3⟩
/-- Who was judged. -/
def jB (J : List Ent) (i : Int) : Bool := (mget J i).isSome
def JOK (J : List Ent) : Prop := ∀ i v, mget J i = some v → v = .bool true
theorem JOK.nil : JOK [] := fun i v h => by cases h
theorem JOK.put {J : List Ent} {c : Nat} {i : Int} (h : JOK J) : JOK (mput J c i (.bool true)) := fun y v hv => by
  rw [mget_put] at hv
  split at hv
  · injection hv with hv; exact hv.symm
  · exact h y v hv
theorem jB_put {J : List Ent} {c : Nat} {i x : Int} : jB (mput J c i (.bool true)) x = if i = x then true else jB J x := by
  unfold jB; rw [mget_put]; split <;> rfl
theorem jB_yes {J : List Ent} {i : Int} (hJ : JOK J) (h : jB J i = true) : (mget J i).getD (.bool false) = .bool true := by
  unfold jB at h
  cases h2 : mget J i with
  | none => rw [h2] at h; cases h
  | some v => exact hJ i v h2
theorem jB_no {J : List Ent} {i : Int} (h : ¬ jB J i = true) : (mget J i).getD (.bool false) = .bool false := by
  unfold jB at h
  cases h2 : mget J i with
  | none => rfl
  | some v => rw [h2] at h; exact absurd rfl h
def inE (rl : List Int) (a : AR) (now : Int) (l : List AR) (J : Int → Bool) (S : LS) : Int :=
  if repChk rl 5 (rlR (a, none)) now ≠ 0 then repChk rl 5 (rlR (a, none)) now else if 0 ≤ at24I l a.id ∨ J a.id = true ∨ (S.get a.id).isSome = true then 9 else if 8 ≤ l.length then 8 else 0
def inI (e : Int) (a : AR) : Int := if e = 0 then a.id else 0
def inQ (e : Int) (a : AR) (l : List AR) : List AR := if e = 0 then l ++ [a] else l
section
variable {rl : List Int} {a : AR} {now : Int} {l : List AR} {J : Int → Bool} {S : LS}
theorem inE_chk (h : ¬ repChk rl 5 (rlR (a, none)) now = 0) : inE rl a now l J S = repChk rl 5 (rlR (a, none)) now := if_pos h
theorem inE_tw (h : repChk rl 5 (rlR (a, none)) now = 0) (h2 : 0 ≤ at24I l a.id ∨ J a.id = true ∨ (S.get a.id).isSome = true) : inE rl a now l J S = 9 := by
  unfold inE; rw [if_neg (by simpa using h), if_pos h2]
theorem inE_full (h : repChk rl 5 (rlR (a, none)) now = 0) (h2 : ¬ (0 ≤ at24I l a.id ∨ J a.id = true ∨ (S.get a.id).isSome = true)) (h3 : 8 ≤ l.length) : inE rl a now l J S = 8 := by
  unfold inE; rw [if_neg (by simpa using h), if_neg h2, if_pos h3]
theorem inE_ok (h : repChk rl 5 (rlR (a, none)) now = 0) (h2 : ¬ (0 ≤ at24I l a.id ∨ J a.id = true ∨ (S.get a.id).isSome = true)) (h3 : ¬ 8 ≤ l.length) : inE rl a now l J S = 0 := by
  unfold inE; rw [if_neg (by simpa using h), if_neg h2, if_neg h3]
end
theorem RsOK.snoc {rs : List RL} {a : AR} {o : Gr} (h : RsOK rs) (h8 : rs.length < 8) (ho : GrOK o a.tl.length) (hk : RepOK (rlR (a, o))) (hb : rB (rlR (a, o)) = true) : RsOK (rs ++ [(a, o)]) :=
  ⟨fun r hr => by
    rcases List.mem_append.1 hr with h1 | h1
    · exact h.1 r h1
    · rw [List.mem_singleton.1 h1]; exact ⟨hk, hb, ho⟩, by simp; omega⟩
theorem srA {a : AR} {o : Gr} {w0 w : World} {O : List Nat} {L L' : List (Nat × Blk)} (hp : HP w0 w O L) (ho : GrOK o a.tl.length) (hd : DelL (gL o a.tl.length (iv .u8 a.tl) 5) L L' := by exact dell) : SrW w 1 (rlR (a, o)).ta (rlR (a, o)).tn (iv .u8 (rlR (a, o)).tl) :=
  HP.sgr hp hd (by simp [rlR]) ho iv_one
theorem rls_snoc {rs : List RL} {r : RL} : (rs ++ [r]).flatMap rlV = rs.flatMap rlV ++ rlV r := by simp
theorem rbs_snoc {rs : List RL} {r : RL} : (rs ++ [r]).flatMap rbL = rs.flatMap rbL ++ rbL r := by simp

theorem in24_calls (R : Rel) (rl : List Int) (hrl : rl.length = 32) (hrb : bytes rl) (m : List Ent) (ck : Nat) (hgm : Good rl m) (M jm b mb j : Nat) (S : LS) (hls : LOK S) (o : Gr) (rs : List RL) (hg : GrOK o rs.length) (hrs : RsOK rs) (J : List Ent) (jc : Nat) (hJ : JOK J) (tk : List Tok) (A : Option Addr) (n cap : Nat) (l : List Int) (now : Int) (hb : bytes l) (hn : n ≤ cap) (hn2 : n ≤ 1000000) (w : World) (h0 : repE l = 0) (hp0 : HP w w (((M, .cells (modS R.r b o rs.length jm (tkP tk)) 91) :: (jm, .obj (mapO .i64 J jc)) :: (b, .cells [(1, [.pointer (some ⟨j, 0, none⟩)]), (1, [.map (some mb)])] 110) :: (mb, .obj (mapO .i64 (S.m.map (gE stkV)) S.ck)) :: (R.r, .cells [(1, [.int .i64 5]), (1, [.map (some R.m)]), (1, [.func (.func 56) #[] #[.pointer (some ⟨R.v, 0, none⟩), .pointer (some ⟨R.k, 0, none⟩)]])] 141) :: (R.m, .obj (mapO .i64 m ck)) :: (R.v, .cells [(1, [.pointer (some ⟨R.r, 0, none⟩)])] 75) :: (R.k, .cells [(32, iv .u8 rl)] 23) :: ((gLM 103 o rs.length (rs.flatMap rlV) 69) ++ (rs.flatMap rbL)) : List (Nat × Blk)).map (·.1)) ((M, .cells (modS R.r b o rs.length jm (tkP tk)) 91) :: (jm, .obj (mapO .i64 J jc)) :: (b, .cells [(1, [.pointer (some ⟨j, 0, none⟩)]), (1, [.map (some mb)])] 110) :: (mb, .obj (mapO .i64 (S.m.map (gE stkV)) S.ck)) :: (R.r, .cells [(1, [.int .i64 5]), (1, [.map (some R.m)]), (1, [.func (.func 56) #[] #[.pointer (some ⟨R.v, 0, none⟩), .pointer (some ⟨R.k, 0, none⟩)]])] 141) :: (R.m, .obj (mapO .i64 m ck)) :: (R.v, .cells [(1, [.pointer (some ⟨R.r, 0, none⟩)])] 75) :: (R.k, .cells [(32, iv .u8 rl)] 23) :: ((gLM 103 o rs.length (rs.flatMap rlV) 69) ++ (rs.flatMap rbL)) : List (Nat × Blk))) (hs : ∀ w' L, HP w w' (((M, .cells (modS R.r b o rs.length jm (tkP tk)) 91) :: (jm, .obj (mapO .i64 J jc)) :: (b, .cells [(1, [.pointer (some ⟨j, 0, none⟩)]), (1, [.map (some mb)])] 110) :: (mb, .obj (mapO .i64 (S.m.map (gE stkV)) S.ck)) :: (R.r, .cells [(1, [.int .i64 5]), (1, [.map (some R.m)]), (1, [.func (.func 56) #[] #[.pointer (some ⟨R.v, 0, none⟩), .pointer (some ⟨R.k, 0, none⟩)]])] 141) :: (R.m, .obj (mapO .i64 m ck)) :: (R.v, .cells [(1, [.pointer (some ⟨R.r, 0, none⟩)])] 75) :: (R.k, .cells [(32, iv .u8 rl)] 23) :: ((gLM 103 o rs.length (rs.flatMap rlV) 69) ++ (rs.flatMap rbL)) : List (Nat × Blk)).map (·.1)) L → SrW w' 1 A n (iv .u8 l)) :
    Calls Tryz.prog 9 [.pointer (some ⟨M, 0, none⟩), .slice A n cap, .int .i64 now].toArray w fun e w' => ∃ r : (Gr × List RL) × List Ent × Nat, (GrOK r.1.1 r.1.2.length ∧ RsOK r.1.2 ∧ r.1.2.map (·.1) = inQ (inE rl (rdA l) now (rs.map (·.1)) (jB J) S) (rdA l) (rs.map (·.1)) ∧ Good rl r.2.1) ∧ e = .returned (.tuple #[.int .i64 (inI (inE rl (rdA l) now (rs.map (·.1)) (jB J) S) (rdA l)), .int .i64 (inE rl (rdA l) now (rs.map (·.1)) (jB J) S)]) ∧ HP w w' (((M, .cells (modS R.r b o rs.length jm (tkP tk)) 91) :: (jm, .obj (mapO .i64 J jc)) :: (b, .cells [(1, [.pointer (some ⟨j, 0, none⟩)]), (1, [.map (some mb)])] 110) :: (mb, .obj (mapO .i64 (S.m.map (gE stkV)) S.ck)) :: (R.r, .cells [(1, [.int .i64 5]), (1, [.map (some R.m)]), (1, [.func (.func 56) #[] #[.pointer (some ⟨R.v, 0, none⟩), .pointer (some ⟨R.k, 0, none⟩)]])] 141) :: (R.m, .obj (mapO .i64 m ck)) :: (R.v, .cells [(1, [.pointer (some ⟨R.r, 0, none⟩)])] 75) :: (R.k, .cells [(32, iv .u8 rl)] 23) :: ((gLM 103 o rs.length (rs.flatMap rlV) 69) ++ (rs.flatMap rbL)) : List (Nat × Blk)).map (·.1)) ((M, .cells (modS R.r b r.1.1 r.1.2.length jm (tkP tk)) 91) :: (jm, .obj (mapO .i64 J jc)) :: (b, .cells [(1, [.pointer (some ⟨j, 0, none⟩)]), (1, [.map (some mb)])] 110) :: (mb, .obj (mapO .i64 (S.m.map (gE stkV)) S.ck)) :: (R.r, .cells [(1, [.int .i64 5]), (1, [.map (some R.m)]), (1, [.func (.func 56) #[] #[.pointer (some ⟨R.v, 0, none⟩), .pointer (some ⟨R.k, 0, none⟩)]])] 141) :: (R.m, .obj (mapO .i64 r.2.1 r.2.2)) :: (R.v, .cells [(1, [.pointer (some ⟨R.r, 0, none⟩)])] 75) :: (R.k, .cells [(32, iv .u8 rl)] 23) :: ((gLM 103 r.1.1 r.1.2.length (r.1.2.flatMap rlV) 69) ++ (r.1.2.flatMap rbL)) : List (Nat × Blk)) := by
 unfold modS
 have hl8 := hrs.2
 refine calls_of_W Tryz.func9 rfl Tryz.ntmps9 rfl rfl hp0 ?_
 refine sr ?_
 refine oas ?_
 refine oas ?_
 refine nx ?_
 refine omv ?_
 refine cgG rfl (fun w hp => readA_calls A n cap l w (hs w _ hp) hb hn hn2 h0) (fun o16 h16 => ?_)
 refine omv ?_
 have hok16 := rdA_ok hb h0 h16
 obtain ⟨ho, hob, hc, hcb, ht, htb, hlb, hlc⟩ := _root_.id hok16
 unfold RepS.V
 refine ov vex ?_
 refine ov vex ?_
 refine oal [(1, [.int .i64 0]), (1, [.int .i64 0]), (1, [.slice none 0 0]), (32, List.replicate 32 (.int .u8 0)), (1, [.int .i64 0]), (1, [.int .i64 0]), (1, [.int .i64 0]), (1, [.int .i64 0]), (32, List.replicate 32 (.int .u8 0)), (32, List.replicate 32 (.int .u8 0))] (fun b8 => ?_)
 refine osta 103 ?_
 refine oas ?_
 refine nq ?_
 refine W.seq ?_
 refine sr ?_
 refine omv ?_
 refine ov (v2 V_neq) ?_
 refine nq ?_
 refine W.cond_false rfl (by decide) ?_
 refine W.skip ?_
 refine WQ.then ?_
 refine W.seq ?_
 refine W.seq ?_
 refine dr (.q 0 (.q 1 (.q 2 (.q 3 (.q 4 (.q 5 (.l 6 (.q 7 (.done))))))))) [(b8, _), (M, _)] ?_
 refine dq rfl (V_move rfl) ?_
 refine dq rfl vnil ?_
 refine dq rfl (vfa0 0 1) ?_
 refine dq rfl vld ?_
 refine dq rfl (vlda 103) ?_
 refine dq rfl (V_move rfl) ?_
 refine WD.l ?_
 refine dcg rfl rfl (fun w hp => repchk_calls (rlR (rdA l, o16)) now hok16 R 5 rl m ck w rat (hh hp) hgm hrl hrb (srA hp h16) (by omega)) (fun b28 h28 => ?_)
 refine dq rfl (V_assign rfl) ?_
 refine WD.done ?_
 refine WQ.then ?_
 refine sr ?_
 refine omv ?_
 refine ov (v2 V_neq) ?_
 refine nq ?_
 refine W.cond_dec rfl (fun g1 => ?_) (fun g1 => ?_)
 · refine W.seq ?_
   refine W.region ?_
   refine omv ?_
   refine oas ?_
   refine oas ?_
   refine nq ?_
   refine W.ret ?_
   refine WQ.then_ret ?_
   refine WQ.ret2 Tryz.results9 (.tmp rfl) (.tmp rfl) ?_
   intro w' hp; have hck : ¬ repChk rl 5 (rlR (rdA l, none)) now = 0 := by simpa [repChk_o] using g1
   rw [inE_chk hck, show inI (repChk rl 5 (rlR (rdA l, none)) now) (rdA l) = 0 from if_neg hck, show inQ (repChk rl 5 (rlR (rdA l, none)) now) (rdA l) (rs.map (·.1)) = rs.map (·.1) from if_neg hck]
   exact ⟨((o, rs), b28), ⟨hg, hrs, rfl, h28⟩, rfl, hp.cov cov⟩
 · refine W.skip ?_
   refine WQ.then ?_
   refine W.seq ?_
   refine dr (.q 0 (.q 1 (.q 2 (.q 3 (.q 4 (.q 5 (.l 6 (.q 7 (.q 8 (.q 9 (.q 10 (.q 11 (.q 12 (.q 13 (.done))))))))))))))) [(b8, _), (M, _)] ?_
   refine dq rfl (V_move rfl) ?_
   refine dq rfl vnil ?_
   refine dq rfl (vfa0 1 1) ?_
   refine dq rfl vld ?_
   refine dq rfl (vfa0 0 1) ?_
   refine dq rfl vld ?_
   refine WD.l ?_
   refine dcms rfl rfl (fun w hp => of23_calls b mb j S hls (rdA l).id w (HP.here hp cov)) ?_
   refine dq rfl (V_move rfl) ?_
   refine dq rfl vex ?_
   refine dq rfl vex ?_
   refine dq rfl vex ?_
   refine dq rfl (V_assign rfl) ?_
   refine dq rfl (V_assign rfl) ?_
   refine dq rfl (V_assign rfl) ?_
   refine WD.done ?_
   refine WQ.then ?_
   refine W.seq ?_
   refine W.block ?_
   refine W.seq ?_
   by_cases c1 : 0 ≤ at24I (rs.map (·.1)) (rdA l).id
   · refine dr (.q 0 (.q 1 (.q 2 (.l 3 (.q 4 (.q 5 (.q 6 (.q 7 (.q 8 (.q 9 (.q 10 (.q 11 (.q 12 (.q 13 (.q 14 (.q 15 (.q 16 (.q 17 (.done))))))))))))))))))) [(b8, _), (M, _), (jm, _)] ?_
     refine dq rfl (V_move rfl) ?_
     refine dq rfl (vfa0 0 1) ?_
     refine dq rfl vld ?_
     refine WD.l ?_
     refine dcp rfl rfl (fun w hp => at24_calls M R.r b jm (tkP tk) o rs hg hrs (rdA l).id w hat (rlsS hp hg hrs.1)) ?_
     refine dq rfl (v2 V_geq) ?_
     refine dq rfl (V_move rfl) ?_
     refine dn rfl rfl (decide_eq_true c1) ?_
     refine dn rfl rfl (decide_eq_true c1) ?_
     refine dn rfl rfl (decide_eq_true c1) ?_
     refine dn rfl rfl (decide_eq_true c1) ?_
     refine dn rfl rfl (decide_eq_true c1) ?_
     refine dn rfl rfl (decide_eq_true c1) ?_
     refine dn rfl rfl (decide_eq_true c1) ?_
     refine dq rfl (V_pick_t rfl (decide_eq_true c1) rfl) ?_
     refine dq rfl (V_move rfl) ?_
     refine dn rfl rfl rfl ?_
     refine dq rfl (V_pick_t rfl rfl rfl) ?_
     refine dq rfl (V_assign rfl) ?_
     refine WD.done ?_
     refine WQ.then ?_
     refine W.cond_true rfl rfl ?_
     refine sr ?_
     refine oas ?_
     refine oas ?_
     refine nq ?_
     refine W.ret ?_
     refine WQ.block_ret ?_
     refine WQ.then_ret ?_
     refine WQ.ret2 Tryz.results9 (.tmp rfl) (.tmp rfl) ?_
     intro w' hp; have hck : repChk rl 5 (rlR (rdA l, none)) now = 0 := by simpa [repChk_o] using g1
     rw [inE_tw hck (.inl c1)]; exact ⟨((o, rs), b28), ⟨hg, hrs, rfl, h28⟩, rfl, hp.cov cov⟩
   · by_cases c2 : jB J (rdA l).id = true
     · refine dr (.q 0 (.q 1 (.q 2 (.l 3 (.q 4 (.q 5 (.q 6 (.q 7 (.q 8 (.q 9 (.q 10 (.q 11 (.q 12 (.q 13 (.q 14 (.q 15 (.q 16 (.q 17 (.done))))))))))))))))))) [(b8, _), (M, _), (jm, _)] ?_
       refine dq rfl (V_move rfl) ?_
       refine dq rfl (vfa0 0 1) ?_
       refine dq rfl vld ?_
       refine WD.l ?_
       refine dcp rfl rfl (fun w hp => at24_calls M R.r b jm (tkP tk) o rs hg hrs (rdA l).id w hat (rlsS hp hg hrs.1)) ?_
       refine dq rfl (v2 V_geq) ?_
       refine dq rfl (V_move rfl) ?_
       refine dy rfl rfl (decide_eq_false c1) (V_move rfl) ?_
       refine dy rfl rfl (decide_eq_false c1) vnil ?_
       refine dy rfl rfl (decide_eq_false c1) (vfa0 3 1) ?_
       refine dy rfl rfl (decide_eq_false c1) vld ?_
       refine dy rfl rfl (decide_eq_false c1) (vfa0 0 1) ?_
       refine dy rfl rfl (decide_eq_false c1) vld ?_
       refine dy rfl rfl (decide_eq_false c1) (vlkZ 4 (.bool false) (.bool true) (jB_yes hJ c2)) ?_
       refine dq rfl (V_pick_f rfl (decide_eq_false c1) rfl) ?_
       refine dq rfl (V_move rfl) ?_
       refine dn rfl rfl rfl ?_
       refine dq rfl (V_pick_t rfl rfl rfl) ?_
       refine dq rfl (V_assign rfl) ?_
       refine WD.done ?_
       refine WQ.then ?_
       refine W.cond_true rfl rfl ?_
       refine sr ?_
       refine oas ?_
       refine oas ?_
       refine nq ?_
       refine W.ret ?_
       refine WQ.block_ret ?_
       refine WQ.then_ret ?_
       refine WQ.ret2 Tryz.results9 (.tmp rfl) (.tmp rfl) ?_
       intro w' hp; have hck : repChk rl 5 (rlR (rdA l, none)) now = 0 := by simpa [repChk_o] using g1
       rw [inE_tw hck (.inr (.inl c2))]; exact ⟨((o, rs), b28), ⟨hg, hrs, rfl, h28⟩, rfl, hp.cov cov⟩
     · refine dr (.q 0 (.q 1 (.q 2 (.l 3 (.q 4 (.q 5 (.q 6 (.q 7 (.q 8 (.q 9 (.q 10 (.q 11 (.q 12 (.q 13 (.q 14 (.q 15 (.q 16 (.q 17 (.done))))))))))))))))))) [(b8, _), (M, _), (jm, _)] ?_
       refine dq rfl (V_move rfl) ?_
       refine dq rfl (vfa0 0 1) ?_
       refine dq rfl vld ?_
       refine WD.l ?_
       refine dcp rfl rfl (fun w hp => at24_calls M R.r b jm (tkP tk) o rs hg hrs (rdA l).id w hat (rlsS hp hg hrs.1)) ?_
       refine dq rfl (v2 V_geq) ?_
       refine dq rfl (V_move rfl) ?_
       refine dy rfl rfl (decide_eq_false c1) (V_move rfl) ?_
       refine dy rfl rfl (decide_eq_false c1) vnil ?_
       refine dy rfl rfl (decide_eq_false c1) (vfa0 3 1) ?_
       refine dy rfl rfl (decide_eq_false c1) vld ?_
       refine dy rfl rfl (decide_eq_false c1) (vfa0 0 1) ?_
       refine dy rfl rfl (decide_eq_false c1) vld ?_
       refine dy rfl rfl (decide_eq_false c1) (vlkZ 4 (.bool false) (.bool false) (jB_no c2)) ?_
       refine dq rfl (V_pick_f rfl (decide_eq_false c1) rfl) ?_
       refine dq rfl (V_move rfl) ?_
       refine dy rfl rfl rfl (V_move rfl) ?_
       refine dq rfl (V_pick_f rfl rfl rfl) ?_
       refine dq rfl (V_assign rfl) ?_
       refine WD.done ?_
       refine WQ.then ?_
       refine W.cond rfl (fun g2 => ?_) (fun g2 => ?_)
       · refine W.seq ?_
         refine W.region ?_
         refine oas ?_
         refine oas ?_
         refine nq ?_
         refine W.ret ?_
         refine WQ.block_ret ?_
         refine WQ.then_ret ?_
         refine WQ.ret2 Tryz.results9 (.tmp rfl) (.tmp rfl) ?_
         intro w' hp; have hck : repChk rl 5 (rlR (rdA l, none)) now = 0 := by simpa [repChk_o] using g1
         rw [inE_tw hck (.inr (.inr (by simpa using g2)))]; exact ⟨((o, rs), b28), ⟨hg, hrs, rfl, h28⟩, rfl, hp.cov cov⟩
       · refine W.seq ?_
         refine W.region ?_
         refine omv ?_
         refine ov vnil ?_
         refine ov (vfa0 2 1) ?_
         refine ov vld ?_
         refine ov vlenS ?_
         refine ov (v2 V_geq) ?_
         refine oas ?_
         refine nq ?_
         refine W.cond_dec rfl (fun g3 => ?_) (fun g3 => ?_)
         · refine W.seq ?_
           refine W.region ?_
           refine oas ?_
           refine oas ?_
           refine nq ?_
           refine W.ret ?_
           refine WQ.block_ret ?_
           refine WQ.then_ret ?_
           refine WQ.ret2 Tryz.results9 (.tmp rfl) (.tmp rfl) ?_
           intro w' hp; have hck : repChk rl 5 (rlR (rdA l, none)) now = 0 := by simpa [repChk_o] using g1
           rw [inE_full hck (by rintro (h | h | h) <;> simp_all) (by simp; omega)]; exact ⟨((o, rs), b28), ⟨hg, hrs, rfl, h28⟩, rfl, hp.cov cov⟩
         · refine W.skip ?_
           refine WQ.block_normal ?_
           refine WQ.then ?_
           refine W.seq ?_
           refine dr (.q 0 (.q 1 (.q 2 (.q 3 (.q 5 (.l2 4 (.l 6 (.l 7 (.q 8 (.q 9 (.l 10 (.done)))))) 6 (.l 4 (.l 7 (.q 8 (.q 9 (.l 10 (.done)))))))))))) [(b8, _)] ?_
           refine dq rfl (V_move rfl) ?_
           refine dq rfl (V_move rfl) ?_
           refine dq rfl vnil ?_
           refine dq rfl (vfa0 2 1) ?_
           refine dq rfl (vlda 103) ?_
           refine WD.l2 ?_ ?_
           · refine dv rfl vld ?_
             refine WD.l ?_
             refine dbsM rfl 69 103 168 (fun b74 => ?_) (h1 := rV_one (r := rlR (rdA l, o16))) (hl := rV_len hok16)
             refine WD.l ?_
             refine dapMG rfl 69 168 (fun o75 h75 _ => ?_) (m := 1) (ys := rlV (rdA l, o16)) (fun w hp => (HP.sown hp (b := b74) (by repeat (first | exact List.Mem.head _ | apply List.Mem.tail)) (rV_one (r := rlR (rdA l, o16)))).mul) (rls_len hrs.1) hg
             refine dq rfl vnil ?_
             refine dq rfl (vfa0 2 1) ?_
             refine WD.l ?_
             refine dst rfl ?_
             refine WD.done ?_
             refine WQ.then ?_
             refine sr ?_
             refine ov (vfa0 0 1) ?_
             refine ov vld ?_
             refine oas ?_
             refine oas ?_
             refine nq ?_
             refine W.ret ?_
             refine WQ.ret2 Tryz.results9 (.tmp rfl) (.tmp rfl) ?_
             intro w' hp; have hck : repChk rl 5 (rlR (rdA l, none)) now = 0 := by simpa [repChk_o] using g1
             rw [inE_ok hck (by rintro (h | h | h) <;> simp_all) (by simp; omega)]; exact ⟨((o75, rs ++ [(rdA l, o16)]), b28), ⟨by simpa using h75, hrs.snoc (by omega) h16 hok16 (repChk_rB hck), by simp [inQ], h28⟩, rfl, by rw [rls_snoc, rbs_snoc]; simp only [List.length_append, List.length_singleton]; exact hp.cov cov⟩
           · refine dbsM rfl 69 103 168 (fun b74 => ?_) (h1 := rV_one (r := rlR (rdA l, o16))) (hl := rV_len hok16)
             refine WD.l ?_
             refine dv rfl vld ?_
             refine WD.l ?_
             refine dapMG rfl 69 168 (fun o75 h75 _ => ?_) (m := 1) (ys := rlV (rdA l, o16)) (fun w hp => (HP.sown hp (b := b74) (by repeat (first | exact List.Mem.head _ | apply List.Mem.tail)) (rV_one (r := rlR (rdA l, o16)))).mul) (rls_len hrs.1) hg
             refine dq rfl vnil ?_
             refine dq rfl (vfa0 2 1) ?_
             refine WD.l ?_
             refine dst rfl ?_
             refine WD.done ?_
             refine WQ.then ?_
             refine sr ?_
             refine ov (vfa0 0 1) ?_
             refine ov vld ?_
             refine oas ?_
             refine oas ?_
             refine nq ?_
             refine W.ret ?_
             refine WQ.ret2 Tryz.results9 (.tmp rfl) (.tmp rfl) ?_
             intro w' hp; have hck : repChk rl 5 (rlR (rdA l, none)) now = 0 := by simpa [repChk_o] using g1
             rw [inE_ok hck (by rintro (h | h | h) <;> simp_all) (by simp; omega)]; exact ⟨((o75, rs ++ [(rdA l, o16)]), b28), ⟨by simpa using h75, hrs.snoc (by omega) h16 hok16 (repChk_rB hck), by simp [inQ], h28⟩, rfl, by rw [rls_snoc, rbs_snoc]; simp only [List.length_append, List.length_singleton]; exact hp.cov cov⟩

end Go.Proofs.YtmeckbjinmgbbaaGreat