/- StrikesPlays: its walk. -/
import Derived.Test.YtnpnnafcdnefiaaRStk4
import Derived.Test.YtnpnnafcdnefiaaPlays22
import Derived.Test.YtnpnnafcdnefiaaXC
set_option linter.unusedVariables false
set_option linter.unusedSimpArgs false

namespace Go.Proofs.Ytnpnnafcdnefiaa
open Go.X
structure Op23 where
  do_ : Int
  a : Int
  i : Int
  now : Int
  kept : Int
  A : Option Addr
  n : Nat
  cap : Nat
  b : List Int
instance : Inhabited Op23 := ⟨⟨0, 0, 0, 0, 0, none, 0, 0, []⟩⟩
def Op23.c (o : Op23) : List Value := [.int .i64 o.do_, .int .i64 o.a, .int .i64 o.i, .int .i64 o.now, .int .u64 o.kept, .slice o.A o.n o.cap]
structure Op23.OK (w : World) (o : Op23) : Prop where
  a : -9223372036854775808 ≤ o.a ∧ o.a ≤ 9223372036854775807
  i : -9223372036854775808 ≤ o.i ∧ o.i ≤ 9223372036854775807
  now : -9223372036854775808 ≤ o.now ∧ o.now ≤ 9223372036854775807
  kept : 0 ≤ o.kept ∧ o.kept ≤ 18446744073709551615
  d : -9223372036854775808 ≤ o.do_ ∧ o.do_ ≤ 9223372036854775807
  s : SrW w 1 o.A o.n (iv .u8 o.b)
  by_ : bytes o.b
  cap : o.n ≤ o.cap ∧ o.cap ≤ 9223372036854775807
theorem Op23.len (o : Op23) : o.c.length = 6 := rfl
theorem Op23.OK.bl {w : World} {o : Op23} (h : o.OK w) : o.b.length = o.n := (SrW.ilen h.s).symm
theorem ops23_of {w : World} {A : Option Addr} {n cap : Nat} (h : okD w (.sl (.fcons (.int .i64) (.fcons (.int .i64) (.fcons (.int .i64) (.fcons (.int .i64) (.fcons (.int .u64) (.fcons (.sl (.int .u8)) .fnil))))))) [.slice A n cap]) :
    n ≤ cap ∧ cap ≤ maxLen ∧ ∃ l : List Op23, l.length = n ∧ SrW w 1 A (n * 6) (l.flatMap Op23.c) ∧ ∀ o ∈ l, o.OK w := by
  obtain ⟨h1, h2, es, h3, h4, h5⟩ := okD_els (by decide) h
  obtain ⟨l, rfl, hl⟩ := list_choose22 (f := Op23.c) (p := Op23.OK w) (es := es) fun e he => by
    obtain ⟨x0, y0, rfl, ⟨a0, rfl, w0⟩, o1⟩ := okD_fcons (h4 e he).1
    obtain ⟨x1, y1, rfl, ⟨a1, rfl, w1⟩, o2⟩ := okD_fcons o1
    obtain ⟨x2, y2, rfl, ⟨a2, rfl, w2⟩, o3⟩ := okD_fcons o2
    obtain ⟨x3, y3, rfl, ⟨a3, rfl, w3⟩, o4⟩ := okD_fcons o3
    obtain ⟨x4, y4, rfl, ⟨a4, rfl, w4⟩, o5⟩ := okD_fcons o4
    obtain ⟨x5, y5, rfl, q5, o6⟩ := okD_fcons o5
    obtain rfl : y5 = [] := o6
    obtain ⟨A2, n2, c2, rfl, _⟩ := id q5
    obtain ⟨k1, k2, b, k3, k4⟩ := okD_ints q5
    exact ⟨⟨a0, a1, a2, a3, a4, A2, n2, c2, b⟩, rfl, wf_i64 w1, wf_i64 w2, wf_i64 w3, wfu64 w4, wf_i64 w0, k3, wfu8 k4, k1, by unfold maxLen at k2; omega⟩
  exact ⟨h1, h2, l, by simpa using h3, by rw [List.flatMap_def]; exact h5, hl⟩
/-- What both ledgers hold. -/
structure SI (D : DS) (R : RS) (g g2 : GR) (S : LS) (o : Gr) : Prop where
  ji : JI D R g g2
  ls : LOK S
  sm : S.m.length ≤ g.rs.length
  o : GrOK o S.m.length
theorem SI.s64 {D : DS} {R : RS} {g g2 : GR} {S : LS} {o : Gr} (h : SI D R g g2 S o) : S.m.length ≤ 64 := by
  have := h.sm; have := h.ji.len; have := h.ji.ok.n64; omega
theorem SI.len2 {D : DS} {R : RS} {g g2 : GR} {S : LS} {o : Gr} (h : SI D R g g2 S o) : g2.rs.length ≤ D.n := by rw [h.ji.lens]; exact h.ji.len
def AskOK (q : Ask) : Prop := ∀ l, q = .inr l → bytes l
theorem adQ_ok {S : LS} {a id now : Int} : AskOK (adQ S a id now) := fun l h => by
  by_cases ho : adOK a id now = true
  · cases hq : S.get id with
    | some s => rw [adQ_old ho hq] at h; cases h
    | none =>
      rw [adQ_new ho hq] at h; cases h
      have ha := (adOK_of ho).1
      exact recS_bytes ⟨by omega, by omega⟩ ⟨by omega, by omega⟩
  · rw [adQ_bad ho] at h; cases h
theorem clQ_ok {S : LS} (hs : LOK S) {id now : Int} : AskOK (clQ S id now) := fun l h => by
  by_cases ho : (tmB id && tmB now) = true
  · cases hq : S.get id with
    | none => rw [clQ_no ho hq] at h; cases h
    | some s =>
      by_cases hc : s.c = true
      · rw [clQ_old ho hq hc] at h; cases h
      · rw [clQ_new ho hq hc] at h; cases h
        have ha := (hs.get hq).2.1
        exact recS_bytes ⟨by omega, by omega⟩ ⟨by omega, by omega⟩
  · rw [clQ_bad ho] at h; cases h
theorem SI.go {D : DS} {R : RS} {g g2 r : GR} {S : LS} {o : Gr} {q : Ask} {x : RS × GR × Gr} (h : SI D R g g2 S o) (hq : AskOK q) (h1 : r.OK ∧ r.ll = goL D g.ll q) (h2 : Rl (goD D g2.rs.length q) x.1 ∧ (x.2.1.OK ∧ x.2.1.ll = goL D g2.ll q) ∧ GrOK x.2.2 (goS D g2.rs.length S q).m.length) :
    SI (goD D g.rs.length q) x.1 r x.2.1 (goS D g.rs.length S q) x.2.2 := by
  rw [h.ji.lens] at h2
  cases q with
  | inl e =>
    have e1 : r.ll = g.ll := h1.2
    have e2 : x.2.1.ll = g2.ll := h2.2.1.2
    have e3 : r.rs.length = g.rs.length := by rw [← GR.ll_len, e1, GR.ll_len]
    exact ⟨⟨h.ji.ok, h2.1, h1.1, h2.2.1.1, by rw [e1, e2]; exact h.ji.ll, by rw [e3]; exact h.ji.len, by rw [e1]; exact h.ji.le⟩, h.ls, by rw [e3]; exact h.sm, h2.2.2⟩
  | inr l =>
    have hb := hq l rfl
    have hj : JI (apD D g.rs.length l) x.1 r x.2.1 := h.ji.ap (q := (x.1, x.2.1)) hb h1 (by rw [h.ji.lens]; exact ⟨h2.1, h2.2.1⟩)
    refine ⟨hj, ?_, ?_, h2.2.2⟩
    · show LOK (if _ then _ else _)
      split
      · exact tk_ok h.ls hb
      · exact h.ls
    · have hl := tk_len (S := S) (l := l)
      have hsm := h.sm
      have hrl : r.rs.length = (if apE D g.ll.length l = 0 then g.ll ++ [l] else g.ll).length := by rw [← GR.ll_len, h1.2]; rfl
      rw [GR.ll_len] at hrl
      show (if apE D g.rs.length l = 0 then tk S l else S).m.length ≤ _
      rw [hrl]
      split
      · rw [List.length_append, GR.ll_len, List.length_singleton]; omega
      · rw [GR.ll_len]; exact hsm
theorem SI.new {D : DS} {R : RS} {g g2 : GR} {o : Gr} (hk : DOK D) (hr : Rl D R) (h1 : g.OK ∧ g.ll = opL D) (h2 : g2.OK ∧ g2.ll = opL D) (h3 : GrOK o (opS (opL D)).m.length) : SI D R g g2 (opS (opL D)) o :=
  ⟨JI.new hk hr h1 h2, opS_ok fun l hl => (opL_ok hk l hl).2, by rw [← GR.ll_len, h1.2]; exact opS_m, h3⟩
theorem SI.step {D E : DS} {R R' : RS} {g g2 : GR} {S : LS} {o : Gr} (h : SI D R g g2 S o) (hk : DOK E) (hr : Rl E R') (hn : E.n = D.n) : SI E R' g g2 S o := ⟨h.ji.step hk hr hn, h.ls, h.sm, h.o⟩
theorem SI.ap {D : DS} {R : RS} {g g2 r : GR} {S : LS} {o : Gr} {b : List Int} {q : RS × GR} (h : SI D R g g2 S o) (hb : bytes b) (h1 : r.OK ∧ r.ll = apL D g.ll b) (h2 : Rl (apD D g2.rs.length b) q.1 ∧ q.2.OK ∧ q.2.ll = apL D g2.ll b) : SI (apD D g.rs.length b) q.1 r q.2 S o := by
  refine ⟨h.ji.ap hb h1 h2, h.ls, ?_, h.o⟩
  have hsm := h.sm
  have hrl : r.rs.length = (if apE D g.ll.length b = 0 then g.ll ++ [b] else g.ll).length := by rw [← GR.ll_len, h1.2]; rfl
  rw [hrl]
  split
  · rw [List.length_append, GR.ll_len]; omega
  · rw [GR.ll_len]; exact hsm

set_option maxHeartbeats 8000000 in
theorem strikesPlays_calls (many : Int) (A : Option Addr) (n cap : Nat) (l : List Op23) (w : World) (hs : SrW w 1 A (n * 6) (l.flatMap Op23.c)) (hl : l.length = n) (hok : ∀ o ∈ l, o.OK w) (hc : n ≤ cap) (hn2 : n ≤ 9223372036854775807) :
    Calls Try.prog 14 [.int .i64 many, .slice A n cap].toArray w fun e w' => e = .returned (.bool true) ∧ HP w w' [] [] := by
 refine calls_of_W Try.func14 rfl Try.ntmps14 rfl rfl (HP.refl w []) ?_
 refine sr ?_
 refine oas ?_
 refine nx ?_
 refine cp rfl (fun w hp => awake23_calls w) ?_
 refine oas ?_
 refine nq ?_
 refine W.seq ?_
 by_cases hm : 1 ≤ many ∧ many ≤ 64
 · obtain ⟨mn, rfl⟩ : ∃ m : Nat, many = m := ⟨many.toNat, by omega⟩
   refine W.region ?_
   refine omv ?_
   refine cg rfl (fun w hp => new21_calls mn (by omega) (by omega) w) (fun b28 h28 => ?_)
   refine omv ?_
   refine ov vex ?_
   refine ov vex ?_
   refine oas ?_
   refine oas ?_
   refine nx ?_
   refine omv ?_
   refine cg rfl (fun w hp => rnew21_calls mn (by omega) (by omega) w) (fun b33 h33 => ?_)
   refine omv ?_
   refine ov vex ?_
   refine ov vex ?_
   refine oas ?_
   refine oas ?_
   refine nq ?_
   refine W.seq ?_
   refine sr ?_
   refine omv ?_
   refine ov (V_eqlP (by kernel_rfl) rfl rfl) ?_
   refine omv ?_
   refine oy rfl rfl ?_
   refine omv ?_
   refine oy rfl rfl ?_
   refine ov (v2 V_neq) ?_
   refine ov (V_pick_f rfl rfl rfl) ?_
   refine omv ?_
   refine oy rfl (by decide) ?_
   refine omv ?_
   refine oy rfl (by decide) ?_
   refine ov (v2 V_neq) ?_
   refine ov (V_pick_f rfl (by decide) rfl) ?_
   refine nq ?_
   refine W.cond_false rfl (by decide) ?_
   refine W.skip ?_
   refine WQ.then ?_
   refine W.seq ?_
   have k0 := newD_ok (n := mn) (by omega) (by omega)
   refine W.region ?_
   refine omv ?_
   refine cgP _ rfl (fun w hp => begun23_calls b28 (newD mn) k0 w (HP.here hp cov)) (fun r53 h53 => ?_)
   simp only [List.cons_append, List.nil_append, List.append_nil, List.append_assoc]
   refine WL.back (gRL 5 31 r53.2.2.2) ?_
   simp only [List.cons_append, List.nil_append, List.append_nil, List.append_assoc]
   refine omv ?_
   refine ov vex ?_
   refine ov vex ?_
   refine oas ?_
   refine oas ?_
   refine nx ?_
   refine omv ?_
   refine cgP _ rfl (fun w hp => ropen22_calls b33 (newD mn) (newR mn) k0 newR_rl w (HP.here hp cov)) (fun r58 h58 => ?_)
   simp only [List.cons_append, List.nil_append, List.append_nil, List.append_assoc]
   refine WL.back (gRL 5 31 r58.2) ?_
   simp only [List.cons_append, List.nil_append, List.append_nil, List.append_assoc]
   refine omv ?_
   refine ov vex ?_
   refine ov vex ?_
   refine oas ?_
   refine oas ?_
   refine nx ?_
   refine omv ?_
   refine cgP _ rfl (fun w hp => rsopen23_calls b33 r58.1 r58.2 h58.1 (by rw [← GR.ll_len, h58.2]; have := opL_len (D := newD mn); have := k0.n64; omega) (GR.le59 h58.1 (by rw [h58.2]; exact opL_le k0)) w (HP.here hp cov)) (fun r62 h62 => ?_)
   simp only [List.cons_append, List.nil_append, List.append_nil, List.append_assoc]
   refine WL.back (gRL 5 31 r58.2) ?_
   simp only [List.cons_append, List.nil_append, List.append_nil, List.append_assoc]
   refine WL.back (rL r62.2 (opS r58.2.ll)) ?_
   simp only [List.cons_append, List.nil_append, List.append_nil, List.append_assoc]
   rw [h58.2] at h62 ⊢
   refine oas ?_
   refine nq ?_
   refine W.seq ?_
   refine sr ?_
   refine oas ?_
   refine nq ?_
   refine W.block ?_
   -- LOOP 0
   refine W.pick (S' := [(10, _), (11, _), (12, _), (14, _), (15, _), (0, _), (1, _), (4, _), (5, _), (6, _), (7, _), (8, _), (9, _), (45, _)]) [10, 11, 12, 14, 15, 0, 1, 4, 5, 6, 7, 8, 9, 45] rfl ?_
   refine W.loopG (σ := Nat × DS × RS × Nat × GR × Nat × Nat × LS × Nat × GR × Nat × Gr) (fun ⟨i, D, R, j, ga, b, mb, S, j2, gb, rb, og⟩ => i ≤ n ∧ SI D R ga gb S og) (fun ⟨i, D, R, j, ga, b, mb, S, j2, gb, rb, og⟩ => [(10, .pointer (some ⟨j, 0, none⟩)), (11, .pointer (some ⟨b, 0, none⟩)), (12, .pointer (some ⟨j2, 0, none⟩)), (14, .pointer (some ⟨rb, 0, none⟩)), (15, .int .i64 (i : Nat))]) (fun ⟨i, D, R, j, ga, b, mb, S, j2, gb, rb, og⟩ => [(b28.d, .cells [(1, [.slice (some ⟨b28.s, 0, none⟩) D.n D.n]), (1, [.map (some b28.m)]), (1, [.int .i64 D.fuse]), (1, [.bool D.dead])] 101), (b28.s, .cells [(D.n * 64, iv .u8 D.sure.flatten)] 58), (b28.m, .obj (mapO .i64 (D.m.map sE) D.ck)), (j, .cells [(1, [.pointer (some ⟨b28.d, 0, none⟩)]), (1, [.int .i64 (ga.rs.length : Nat)]), (1, [.int .i64 (D.n : Nat)]), (1, [.slice (gA ga.o) ga.rs.length (gC ga.o)])] 103), (b, .cells [(1, [.pointer (some ⟨j, 0, none⟩)]), (1, [.map (some mb)])] 121), (mb, .obj (mapO .i64 (S.m.map (gE stkV)) S.ck)), (b33.d, .cells [(1, [.slice (some ⟨b33.s, 0, none⟩) R.n R.n]), (1, [.slice (some ⟨b33.x, 0, none⟩) R.n R.n]), (1, [.slice (some ⟨b33.i, 0, none⟩) R.n R.n]), (1, [.int .i64 R.fuse]), (1, [.bool R.dead])] 130), (b33.s, .cells [(R.n * 64, iv .u8 R.sure.flatten)] 72), (b33.x, .cells [(R.n * 64, iv .u8 R.new.flatten)] 72), (b33.i, .cells [(R.n, bv R.iss), (R.n - R.n, [])] 4), (j2, .cells [(1, [.pointer (some ⟨b33.d, 0, none⟩)]), (1, [.slice (gA gb.o) gb.rs.length (gC gb.o)])] 88), (rb, .cells [(1, [.pointer (some ⟨j2, 0, none⟩)]), (1, [.slice (gA og) S.m.length (gC og)])] 135)]) [] (fun ⟨i, D, R, j, ga, b, mb, S, j2, gb, rb, og⟩ => gRL 5 31 ga ++ (gRL 5 31 gb ++ rL og S)) (fun ⟨i, D, R, j, ga, b, mb, S, j2, gb, rb, og⟩ => n - i) (0, newD mn, newR mn, r53.1, r53.2.2.2, r53.2.1, r53.2.2.1, opS (opL (newD mn)), r58.1, r58.2, r62.1, r62.2) rfl cov ⟨Nat.zero_le _, SI.new k0 newR_rl h53 h58 h62⟩ ?_
   rintro ⟨i, D, R, j, ga, b, mb, S, j2, gb, rb, og⟩ ⟨hi, hI⟩; dsimp only at hi hI ⊢
   simp only [List.cons_append, List.nil_append]
   refine W.seq ?_
   refine sr ?_
   refine omv ?_
   refine omv ?_
   refine ov vlenS ?_
   refine ov (v2 V_lss) ?_
   refine omv ?_
   refine WL.splitD rfl (fun g1 => ?_) (fun g1 => ?_)
   · refine oy rfl (decide_eq_true g1) ?_
     refine omv ?_
     refine oy rfl (decide_eq_true g1) ?_
     refine ov (v2 V_lss) ?_
     refine ov (V_pick_td rfl g1 rfl) ?_
     refine nq ?_
     refine W.cond_dec rfl (fun g2 => ?_) (fun g2 => ?_)
     · refine W.skip ?_
       refine WQ.then ?_
       refine W.seq ?_
       refine W.block ?_
       refine W.seq ?_
       have ho : Op23.OK w (l.getD i default) := by rw [List.getD_eq_getElem?_getD, List.getElem?_eq_getElem (by omega)]; exact hok _ (List.getElem_mem (by omega))
       refine W.region ?_
       refine omv ?_
       refine omv ?_
       obtain ⟨bbA, ooA, rfl⟩ := hs.hasN sc
       refine ov (viO 6) ?_
       refine ov (vldOA (ds := [(1, [.int .i64 (l.getD i default).do_]), (1, [.int .i64 (l.getD i default).a]), (1, [.int .i64 (l.getD i default).i]), (1, [.int .i64 (l.getD i default).now]), (1, [.int .u64 (l.getD i default).kept]), (1, [.slice (l.getD i default).A (l.getD i default).n (l.getD i default).cap])]) 6 i Op23.len hs rfl) ?_
       refine oal [(1, [.int .i64 0]), (1, [.int .i64 0]), (1, [.int .i64 0]), (1, [.int .i64 0]), (1, [.int .u64 0]), (1, [.slice none 0 0])] (fun b16 => ?_)
       refine osta 6 ?_
       refine nq ?_
       refine W.seq ?_
       refine W.seq ?_
       generalize l.getD i default = oz at ho ⊢
       have hob := ho.bl
       have hos := ho.s
       have hocap := ho.cap
       refine W.region ?_
       refine omv ?_
       refine ov (V_eqlP (by kernel_rfl) rfl rfl) ?_
       refine omv ?_
       refine oy rfl rfl ?_
       refine omv ?_
       refine oy rfl rfl ?_
       refine ov (V_eqlP (by kernel_rfl) rfl rfl) ?_
       refine ov (V_pick_f rfl rfl rfl) ?_
       refine omv ?_
       refine oy rfl rfl ?_
       refine ov (vfa0 5 1) ?_
       refine oy rfl rfl ?_
       refine ov vld ?_
       refine oy rfl rfl ?_
       refine ov vlenS ?_
       refine oy rfl rfl ?_
       refine ov (v2 V_gtr) ?_
       refine ov (V_pick_f rfl rfl rfl) ?_
       refine nq ?_
       refine W.cond_dec rfl (fun g3 => ?_) (fun g3 => ?_)
       · refine W.seq ?_
         refine W.region ?_
         refine omv ?_
         refine omv ?_
         refine oy rfl rfl ?_
         refine omv ?_
         refine oy rfl rfl ?_
         refine ov (V_neqP (by kernel_rfl) rfl rfl) ?_
         refine ov (V_pick_t rfl rfl rfl) ?_
         refine oas ?_
         refine nq ?_
         refine W.ret ?_
         refine WQ.then_ret ?_
         refine WQ.block_ret ?_
         refine WQ.then_ret ?_
         refine WQ.then_ret ?_
         refine WQ.block_ret ?_
         refine WQ.then_ret ?_
         refine WQ.ret1 Try.results14 (.tmp rfl) ?_
         intro w' hp; exact ⟨by first | rfl | (simp; done) | (simp [*]; done) | simp_all, hp.forget⟩
       · refine W.skip ?_
         refine WQ.then ?_
         refine sr ?_
         refine oas ?_
         refine nq ?_
         refine W.seqJ (σ := DS × RS × Nat × GR × Nat × Nat × LS × Nat × GR × Nat × Gr) (K := [(0, _), (1, _), (4, _), (5, _), (6, _), (7, _), (8, _), (9, _), (15, _), (16, _), (45, _), (70, _), (88, _)]) [0, 1, 4, 5, 6, 7, 8, 9, 15, 16, 45, 70, 88] rfl (fun ⟨E, RR, jj, gg, bb, mm, SS, jj2, gg2, rb2, oo⟩ => SI E RR gg gg2 SS oo) (fun ⟨E, RR, jj, gg, bb, mm, SS, jj2, gg2, rb2, oo⟩ => [(10, .pointer (some ⟨jj, 0, none⟩)), (11, .pointer (some ⟨bb, 0, none⟩)), (12, .pointer (some ⟨jj2, 0, none⟩)), (14, .pointer (some ⟨rb2, 0, none⟩)), (17, .bool true)]) (fun ⟨E, RR, jj, gg, bb, mm, SS, jj2, gg2, rb2, oo⟩ => [(b28.d, .cells [(1, [.slice (some ⟨b28.s, 0, none⟩) E.n E.n]), (1, [.map (some b28.m)]), (1, [.int .i64 E.fuse]), (1, [.bool E.dead])] 101), (b28.s, .cells [(E.n * 64, iv .u8 E.sure.flatten)] 58), (b28.m, .obj (mapO .i64 (E.m.map sE) E.ck)), (jj, .cells [(1, [.pointer (some ⟨b28.d, 0, none⟩)]), (1, [.int .i64 (gg.rs.length : Nat)]), (1, [.int .i64 (E.n : Nat)]), (1, [.slice (gA gg.o) gg.rs.length (gC gg.o)])] 103), (bb, .cells [(1, [.pointer (some ⟨jj, 0, none⟩)]), (1, [.map (some mm)])] 121), (mm, .obj (mapO .i64 (SS.m.map (gE stkV)) SS.ck)), (b33.d, .cells [(1, [.slice (some ⟨b33.s, 0, none⟩) RR.n RR.n]), (1, [.slice (some ⟨b33.x, 0, none⟩) RR.n RR.n]), (1, [.slice (some ⟨b33.i, 0, none⟩) RR.n RR.n]), (1, [.int .i64 RR.fuse]), (1, [.bool RR.dead])] 130), (b33.s, .cells [(RR.n * 64, iv .u8 RR.sure.flatten)] 72), (b33.x, .cells [(RR.n * 64, iv .u8 RR.new.flatten)] 72), (b33.i, .cells [(RR.n, bv RR.iss), (RR.n - RR.n, [])] 4), (jj2, .cells [(1, [.pointer (some ⟨b33.d, 0, none⟩)]), (1, [.slice (gA gg2.o) gg2.rs.length (gC gg2.o)])] 88), (rb2, .cells [(1, [.pointer (some ⟨jj2, 0, none⟩)]), (1, [.slice (gA oo) SS.m.length (gC oo)])] 135), (b16, .cells [(1, [.int .i64 oz.do_]), (1, [.int .i64 oz.a]), (1, [.int .i64 oz.i]), (1, [.int .i64 oz.now]), (1, [.int .u64 oz.kept]), (1, [.slice oz.A oz.n oz.cap])] 96)]) [] (fun ⟨E, RR, jj, gg, bb, mm, SS, jj2, gg2, rb2, oo⟩ => gRL 5 31 gg ++ (gRL 5 31 gg2 ++ rL oo SS)) ?_ ?_
         · refine W.seq ?_
           refine W.region ?_
           refine ov (vfa0 0 1) ?_
           refine ov vld ?_
           refine nq ?_
           refine W.block ?_
           refine W.seq ?_
           refine sr ?_
           refine ov (v2 V_eql) ?_
           refine oas ?_
           refine nq ?_
           refine W.cond_dec rfl (fun g4 => ?_) (fun g4 => ?_)
           · refine W.skip ?_
             refine WQ.then ?_
             refine W.cond_true rfl (decide_eq_true g4) ?_
             refine dr (.q 0 (.q 1 (.q 2 (.q 3 (.q 4 (.q 5 (.q 6 (.q 8 (.q 9 (.q 10 (.q 11 (.q 12 (.q 13 (.q 14 (.l 7 (.l 15 (.q 16 (.q 17 (.done))))))))))))))))))) [(b16, _)] ?_
             refine dq rfl (V_move rfl) ?_
             refine dq rfl (vfa0 1 1) ?_
             refine dq rfl vld ?_
             refine dq rfl (vfa0 2 1) ?_
             refine dq rfl vld ?_
             refine dq rfl (vfa0 3 1) ?_
             refine dq rfl vld ?_
             refine dq rfl (V_move rfl) ?_
             refine dq rfl (vfa0 1 1) ?_
             refine dq rfl vld ?_
             refine dq rfl (vfa0 2 1) ?_
             refine dq rfl vld ?_
             refine dq rfl (vfa0 3 1) ?_
             refine dq rfl vld ?_
             refine WD.l ?_
             refine dcgP _ rfl rfl (fun w hp => add23_calls b28 D hI.ji.ok j ga hI.ji.gok hI.ji.len b mb S hI.ls oz.a oz.i oz.now w (HP.here hp cov)) (fun r116 h116 => ?_)
             simp only [List.cons_append, List.nil_append, List.append_nil, List.append_assoc]
             refine WD.back (gRL 5 31 r116) ?_
             simp only [List.cons_append, List.nil_append, List.append_nil, List.append_assoc]
             refine WD.l ?_
             refine dcgP _ rfl rfl (fun w hp => radd23_calls b33 D R hI.ji.ok hI.ji.rl j2 gb hI.ji.gok2 hI.len2 rb og S hI.ls hI.o (by have := hI.s64; omega) oz.a oz.i oz.now w (HP.here hp cov)) (fun r124 h124 => ?_)
             simp only [List.cons_append, List.nil_append, List.append_nil, List.append_assoc]
             refine WD.back (gRL 5 31 r124.2.1) ?_
             simp only [List.cons_append, List.nil_append, List.append_nil, List.append_assoc]
             refine WD.back (rL r124.2.2 (goS D gb.rs.length S (adQ S oz.a oz.i oz.now))) ?_
             simp only [List.cons_append, List.nil_append, List.append_nil, List.append_assoc]
             refine dq rfl (v2 V_eql) ?_
             refine dq rfl (V_assign rfl) ?_
             refine WD.done ?_
             refine WQ.block_normal ?_
             have hI2 := hI.go (adQ_ok) h116 h124
             rw [hI.ji.lens, show decide (goE D ga.rs.length (adQ S oz.a oz.i oz.now) = goE D ga.rs.length (adQ S oz.a oz.i oz.now)) = true from decide_eq_true rfl]
             clear h116 h124
             obtain ⟨RR, gg2, oo⟩ := r124
             dsimp only at hI2 ⊢
             generalize goD D ga.rs.length (adQ S oz.a oz.i oz.now) = E at hI2 ⊢
             generalize goS D ga.rs.length S (adQ S oz.a oz.i oz.now) = SS at hI2 ⊢
             obtain ⟨gg, hx⟩ : ∃ x, x = r116 := ⟨_, rfl⟩
             subst hx
             obtain ⟨jj, hx⟩ : ∃ x, x = j := ⟨_, rfl⟩
             subst hx
             obtain ⟨bb, hx⟩ : ∃ x, x = b := ⟨_, rfl⟩
             subst hx
             obtain ⟨mm, hx⟩ : ∃ x, x = mb := ⟨_, rfl⟩
             subst hx
             obtain ⟨jj2, hx⟩ : ∃ x, x = j2 := ⟨_, rfl⟩
             subst hx
             obtain ⟨rb2, hx⟩ : ∃ x, x = rb := ⟨_, rfl⟩
             subst hx
             exact jn (E, RR, jj, gg, bb, mm, SS, jj2, gg2, rb2, oo) [10, 11, 12, 14, 17, 0, 1, 4, 5, 6, 7, 8, 9, 15, 16, 45, 70, 88] (by (try dsimp only); exact hI2) rfl cov
           · refine W.seq ?_
             refine W.region ?_
             refine ov (v2 V_eql) ?_
             refine oas ?_
             refine nq ?_
             refine W.cond_dec rfl (fun g5 => ?_) (fun g5 => ?_)
             · refine W.skip ?_
               refine WQ.then ?_
               refine W.cond_true rfl (decide_eq_true g5) ?_
               refine dr (.q 0 (.q 1 (.q 2 (.q 3 (.q 4 (.q 5 (.q 6 (.q 8 (.q 9 (.q 10 (.q 11 (.q 12 (.q 13 (.q 14 (.l 7 (.l 15 (.q 16 (.q 17 (.done))))))))))))))))))) [(b16, _)] ?_
               refine dq rfl (V_move rfl) ?_
               refine dq rfl (vfa0 1 1) ?_
               refine dq rfl vld ?_
               refine dq rfl (vfa0 2 1) ?_
               refine dq rfl vld ?_
               refine dq rfl (vfa0 3 1) ?_
               refine dq rfl vld ?_
               refine dq rfl (V_move rfl) ?_
               refine dq rfl (vfa0 1 1) ?_
               refine dq rfl vld ?_
               refine dq rfl (vfa0 2 1) ?_
               refine dq rfl vld ?_
               refine dq rfl (vfa0 3 1) ?_
               refine dq rfl vld ?_
               refine WD.l ?_
               refine dcgP _ rfl rfl (fun w hp => add23_calls b28 D hI.ji.ok j ga hI.ji.gok hI.ji.len b mb S hI.ls oz.a oz.i oz.now w (HP.here hp cov)) (fun r116 h116 => ?_)
               simp only [List.cons_append, List.nil_append, List.append_nil, List.append_assoc]
               refine WD.back (gRL 5 31 r116) ?_
               simp only [List.cons_append, List.nil_append, List.append_nil, List.append_assoc]
               refine WD.l ?_
               refine dcgP _ rfl rfl (fun w hp => radd23_calls b33 D R hI.ji.ok hI.ji.rl j2 gb hI.ji.gok2 hI.len2 rb og S hI.ls hI.o (by have := hI.s64; omega) oz.a oz.i oz.now w (HP.here hp cov)) (fun r124 h124 => ?_)
               simp only [List.cons_append, List.nil_append, List.append_nil, List.append_assoc]
               refine WD.back (gRL 5 31 r124.2.1) ?_
               simp only [List.cons_append, List.nil_append, List.append_nil, List.append_assoc]
               refine WD.back (rL r124.2.2 (goS D gb.rs.length S (adQ S oz.a oz.i oz.now))) ?_
               simp only [List.cons_append, List.nil_append, List.append_nil, List.append_assoc]
               refine dq rfl (v2 V_eql) ?_
               refine dq rfl (V_assign rfl) ?_
               refine WD.done ?_
               refine WQ.block_normal ?_
               have hI2 := hI.go (adQ_ok) h116 h124
               rw [hI.ji.lens, show decide (goE D ga.rs.length (adQ S oz.a oz.i oz.now) = goE D ga.rs.length (adQ S oz.a oz.i oz.now)) = true from decide_eq_true rfl]
               clear h116 h124
               obtain ⟨RR, gg2, oo⟩ := r124
               dsimp only at hI2 ⊢
               generalize goD D ga.rs.length (adQ S oz.a oz.i oz.now) = E at hI2 ⊢
               generalize goS D ga.rs.length S (adQ S oz.a oz.i oz.now) = SS at hI2 ⊢
               obtain ⟨gg, hx⟩ : ∃ x, x = r116 := ⟨_, rfl⟩
               subst hx
               obtain ⟨jj, hx⟩ : ∃ x, x = j := ⟨_, rfl⟩
               subst hx
               obtain ⟨bb, hx⟩ : ∃ x, x = b := ⟨_, rfl⟩
               subst hx
               obtain ⟨mm, hx⟩ : ∃ x, x = mb := ⟨_, rfl⟩
               subst hx
               obtain ⟨jj2, hx⟩ : ∃ x, x = j2 := ⟨_, rfl⟩
               subst hx
               obtain ⟨rb2, hx⟩ : ∃ x, x = rb := ⟨_, rfl⟩
               subst hx
               exact jn (E, RR, jj, gg, bb, mm, SS, jj2, gg2, rb2, oo) [10, 11, 12, 14, 17, 0, 1, 4, 5, 6, 7, 8, 9, 15, 16, 45, 70, 88] (by (try dsimp only); exact hI2) rfl cov
             · refine W.region ?_
               refine ov (v2 V_eql) ?_
               refine oas ?_
               refine nq ?_
               refine W.cond_dec rfl (fun g6 => ?_) (fun g6 => ?_)
               · refine dr (.q 0 (.q 1 (.q 2 (.q 3 (.q 4 (.q 5 (.q 6 (.q 8 (.q 9 (.q 10 (.q 11 (.q 12 (.q 13 (.q 14 (.l 7 (.l 15 (.q 16 (.q 17 (.done))))))))))))))))))) [(b16, _)] ?_
                 refine dq rfl (V_move rfl) ?_
                 refine dq rfl (vfa0 1 1) ?_
                 refine dq rfl vld ?_
                 refine dq rfl (vfa0 2 1) ?_
                 refine dq rfl vld ?_
                 refine dq rfl (vfa0 3 1) ?_
                 refine dq rfl vld ?_
                 refine dq rfl (V_move rfl) ?_
                 refine dq rfl (vfa0 1 1) ?_
                 refine dq rfl vld ?_
                 refine dq rfl (vfa0 2 1) ?_
                 refine dq rfl vld ?_
                 refine dq rfl (vfa0 3 1) ?_
                 refine dq rfl vld ?_
                 refine WD.l ?_
                 refine dcgP _ rfl rfl (fun w hp => add23_calls b28 D hI.ji.ok j ga hI.ji.gok hI.ji.len b mb S hI.ls oz.a oz.i oz.now w (HP.here hp cov)) (fun r116 h116 => ?_)
                 simp only [List.cons_append, List.nil_append, List.append_nil, List.append_assoc]
                 refine WD.back (gRL 5 31 r116) ?_
                 simp only [List.cons_append, List.nil_append, List.append_nil, List.append_assoc]
                 refine WD.l ?_
                 refine dcgP _ rfl rfl (fun w hp => radd23_calls b33 D R hI.ji.ok hI.ji.rl j2 gb hI.ji.gok2 hI.len2 rb og S hI.ls hI.o (by have := hI.s64; omega) oz.a oz.i oz.now w (HP.here hp cov)) (fun r124 h124 => ?_)
                 simp only [List.cons_append, List.nil_append, List.append_nil, List.append_assoc]
                 refine WD.back (gRL 5 31 r124.2.1) ?_
                 simp only [List.cons_append, List.nil_append, List.append_nil, List.append_assoc]
                 refine WD.back (rL r124.2.2 (goS D gb.rs.length S (adQ S oz.a oz.i oz.now))) ?_
                 simp only [List.cons_append, List.nil_append, List.append_nil, List.append_assoc]
                 refine dq rfl (v2 V_eql) ?_
                 refine dq rfl (V_assign rfl) ?_
                 refine WD.done ?_
                 refine WQ.block_normal ?_
                 have hI2 := hI.go (adQ_ok) h116 h124
                 rw [hI.ji.lens, show decide (goE D ga.rs.length (adQ S oz.a oz.i oz.now) = goE D ga.rs.length (adQ S oz.a oz.i oz.now)) = true from decide_eq_true rfl]
                 clear h116 h124
                 obtain ⟨RR, gg2, oo⟩ := r124
                 dsimp only at hI2 ⊢
                 generalize goD D ga.rs.length (adQ S oz.a oz.i oz.now) = E at hI2 ⊢
                 generalize goS D ga.rs.length S (adQ S oz.a oz.i oz.now) = SS at hI2 ⊢
                 obtain ⟨gg, hx⟩ : ∃ x, x = r116 := ⟨_, rfl⟩
                 subst hx
                 obtain ⟨jj, hx⟩ : ∃ x, x = j := ⟨_, rfl⟩
                 subst hx
                 obtain ⟨bb, hx⟩ : ∃ x, x = b := ⟨_, rfl⟩
                 subst hx
                 obtain ⟨mm, hx⟩ : ∃ x, x = mb := ⟨_, rfl⟩
                 subst hx
                 obtain ⟨jj2, hx⟩ : ∃ x, x = j2 := ⟨_, rfl⟩
                 subst hx
                 obtain ⟨rb2, hx⟩ : ∃ x, x = rb := ⟨_, rfl⟩
                 subst hx
                 exact jn (E, RR, jj, gg, bb, mm, SS, jj2, gg2, rb2, oo) [10, 11, 12, 14, 17, 0, 1, 4, 5, 6, 7, 8, 9, 15, 16, 45, 70, 88] (by (try dsimp only); exact hI2) rfl cov
               · refine W.seq ?_
                 refine W.region ?_
                 refine ov (v2 V_eql) ?_
                 refine oas ?_
                 refine nq ?_
                 refine W.cond_dec rfl (fun g7 => ?_) (fun g7 => ?_)
                 · refine dr (.q 0 (.q 1 (.q 2 (.q 3 (.q 4 (.q 6 (.q 7 (.q 8 (.q 9 (.q 10 (.l 5 (.l 11 (.q 12 (.q 13 (.done))))))))))))))) [(b16, _)] ?_
                   refine dq rfl (V_move rfl) ?_
                   refine dq rfl (vfa0 2 1) ?_
                   refine dq rfl vld ?_
                   refine dq rfl (vfa0 3 1) ?_
                   refine dq rfl vld ?_
                   refine dq rfl (V_move rfl) ?_
                   refine dq rfl (vfa0 2 1) ?_
                   refine dq rfl vld ?_
                   refine dq rfl (vfa0 3 1) ?_
                   refine dq rfl vld ?_
                   refine WD.l ?_
                   refine dcgP _ rfl rfl (fun w hp => clear23_calls b28 D hI.ji.ok j ga hI.ji.gok hI.ji.len b mb S hI.ls oz.i oz.now w (HP.here hp cov)) (fun r133 h133 => ?_)
                   simp only [List.cons_append, List.nil_append, List.append_nil, List.append_assoc]
                   refine WD.back (gRL 5 31 r133) ?_
                   simp only [List.cons_append, List.nil_append, List.append_nil, List.append_assoc]
                   refine WD.l ?_
                   refine dcgP _ rfl rfl (fun w hp => rclear23_calls b33 D R hI.ji.ok hI.ji.rl j2 gb hI.ji.gok2 hI.len2 rb og S hI.ls hI.o (by have := hI.s64; omega) oz.i oz.now w (HP.here hp cov)) (fun r139 h139 => ?_)
                   simp only [List.cons_append, List.nil_append, List.append_nil, List.append_assoc]
                   refine WD.back (gRL 5 31 r139.2.1) ?_
                   simp only [List.cons_append, List.nil_append, List.append_nil, List.append_assoc]
                   refine WD.back (rL r139.2.2 (goS D gb.rs.length S (clQ S oz.i oz.now))) ?_
                   simp only [List.cons_append, List.nil_append, List.append_nil, List.append_assoc]
                   refine dq rfl (v2 V_eql) ?_
                   refine dq rfl (V_assign rfl) ?_
                   refine WD.done ?_
                   refine WQ.block_normal ?_
                   have hI2 := hI.go (clQ_ok hI.ls) h133 h139
                   rw [hI.ji.lens, show decide (goE D ga.rs.length (clQ S oz.i oz.now) = goE D ga.rs.length (clQ S oz.i oz.now)) = true from decide_eq_true rfl]
                   clear h133 h139
                   obtain ⟨RR, gg2, oo⟩ := r139
                   dsimp only at hI2 ⊢
                   generalize goD D ga.rs.length (clQ S oz.i oz.now) = E at hI2 ⊢
                   generalize goS D ga.rs.length S (clQ S oz.i oz.now) = SS at hI2 ⊢
                   obtain ⟨gg, hx⟩ : ∃ x, x = r133 := ⟨_, rfl⟩
                   subst hx
                   obtain ⟨jj, hx⟩ : ∃ x, x = j := ⟨_, rfl⟩
                   subst hx
                   obtain ⟨bb, hx⟩ : ∃ x, x = b := ⟨_, rfl⟩
                   subst hx
                   obtain ⟨mm, hx⟩ : ∃ x, x = mb := ⟨_, rfl⟩
                   subst hx
                   obtain ⟨jj2, hx⟩ : ∃ x, x = j2 := ⟨_, rfl⟩
                   subst hx
                   obtain ⟨rb2, hx⟩ : ∃ x, x = rb := ⟨_, rfl⟩
                   subst hx
                   exact jn (E, RR, jj, gg, bb, mm, SS, jj2, gg2, rb2, oo) [10, 11, 12, 14, 17, 0, 1, 4, 5, 6, 7, 8, 9, 15, 16, 45, 70, 88] (by (try dsimp only); exact hI2) rfl cov
                 · refine W.seq ?_
                   refine W.region ?_
                   refine ov (v2 V_eql) ?_
                   refine oas ?_
                   refine nq ?_
                   refine W.cond_dec rfl (fun g8 => ?_) (fun g8 => ?_)
                   · refine W.seq ?_
                     refine W.region ?_
                     refine omv ?_
                     refine ov (vfa0 2 1) ?_
                     refine ov vld ?_
                     refine cms rfl (fun w hp => fuse21_calls b28 D hI.ji.ok oz.i ho.i w (HP.here hp cov)) ?_
                     refine nq ?_
                     refine W.region ?_
                     refine omv ?_
                     refine ov (vfa0 2 1) ?_
                     refine ov vld ?_
                     refine cg rfl (fun w hp => rfuse21_calls b33 D R hI.ji.ok hI.ji.rl oz.i ho.i w (HP.here hp cov)) (fun b150 h150 => ?_)
                     refine WL.nil ?_
                     refine WQ.block_normal ?_
                     have hI2 := hI.step (fuD_ok hI.ji.ok ho.i.2) h150 rfl
                     have hn3 : (fuD D oz.i).n = D.n := rfl
                     rw [← hn3]
                     generalize fuD D oz.i = E at hI2 ⊢
                     obtain ⟨RR, hx⟩ : ∃ x, x = b150 := ⟨_, rfl⟩
                     subst hx
                     obtain ⟨gg, hx⟩ : ∃ x, x = ga := ⟨_, rfl⟩
                     subst hx
                     obtain ⟨gg2, hx⟩ : ∃ x, x = gb := ⟨_, rfl⟩
                     subst hx
                     obtain ⟨SS, hx⟩ : ∃ x, x = S := ⟨_, rfl⟩
                     subst hx
                     obtain ⟨oo, hx⟩ : ∃ x, x = og := ⟨_, rfl⟩
                     subst hx
                     obtain ⟨jj, hx⟩ : ∃ x, x = j := ⟨_, rfl⟩
                     subst hx
                     obtain ⟨bb, hx⟩ : ∃ x, x = b := ⟨_, rfl⟩
                     subst hx
                     obtain ⟨mm, hx⟩ : ∃ x, x = mb := ⟨_, rfl⟩
                     subst hx
                     obtain ⟨jj2, hx⟩ : ∃ x, x = j2 := ⟨_, rfl⟩
                     subst hx
                     obtain ⟨rb2, hx⟩ : ∃ x, x = rb := ⟨_, rfl⟩
                     subst hx
                     exact jn (E, RR, jj, gg, bb, mm, SS, jj2, gg2, rb2, oo) [10, 11, 12, 14, 17, 0, 1, 4, 5, 6, 7, 8, 9, 15, 16, 45, 70, 88] (by (try dsimp only); exact hI2) rfl cov
                   · refine W.seq ?_
                     refine W.region ?_
                     refine ov (v2 V_eql) ?_
                     refine oas ?_
                     refine nq ?_
                     refine W.cond_dec rfl (fun g9 => ?_) (fun g9 => ?_)
                     · refine W.seq ?_
                       refine W.region ?_
                       refine omv ?_
                       refine ov (vfa0 4 1) ?_
                       refine ov vld ?_
                       refine cms rfl (fun w hp => crash21_calls b28 D hI.ji.ok oz.kept ho.kept w (HP.here hp cov)) ?_
                       refine nx ?_
                       refine omv ?_
                       refine ov (vfa0 4 1) ?_
                       refine ov vld ?_
                       refine cg rfl (fun w hp => rcrash21_calls b33 D R hI.ji.ok hI.ji.rl oz.kept ho.kept w (HP.here hp cov)) (fun b160 h160 => ?_)
                       refine nx ?_
                       refine omv ?_
                       refine cgP _ rfl (fun w hp => begun23_calls b28 (crD D oz.kept) (crD_ok hI.ji.ok) w (HP.here hp cov)) (fun r163 h163 => ?_)
                       simp only [List.cons_append, List.nil_append, List.append_nil, List.append_assoc]
                       refine WL.back (gRL 5 31 r163.2.2.2) ?_
                       simp only [List.cons_append, List.nil_append, List.append_nil, List.append_assoc]
                       refine omv ?_
                       refine ov vex ?_
                       refine ov vex ?_
                       refine oas ?_
                       refine oas ?_
                       refine nx ?_
                       refine omv ?_
                       refine cgP _ rfl (fun w hp => ropen22_calls b33 (crD D oz.kept) b160 (crD_ok hI.ji.ok) h160 w (HP.here hp cov)) (fun r168 h168 => ?_)
                       simp only [List.cons_append, List.nil_append, List.append_nil, List.append_assoc]
                       refine WL.back (gRL 5 31 r168.2) ?_
                       simp only [List.cons_append, List.nil_append, List.append_nil, List.append_assoc]
                       refine omv ?_
                       refine ov vex ?_
                       refine ov vex ?_
                       refine oas ?_
                       refine nx ?_
                       refine omv ?_
                       refine cgP _ rfl (fun w hp => rsopen23_calls b33 r168.1 r168.2 h168.1 (by rw [← GR.ll_len, h168.2]; have := opL_len (D := crD D oz.kept); have := (crD_ok hI.ji.ok (kept := oz.kept)).n64; omega) (GR.le59 h168.1 (by rw [h168.2]; exact opL_le (crD_ok hI.ji.ok))) w (HP.here hp cov)) (fun r172 h172 => ?_)
                       simp only [List.cons_append, List.nil_append, List.append_nil, List.append_assoc]
                       refine WL.back (gRL 5 31 r168.2) ?_
                       simp only [List.cons_append, List.nil_append, List.append_nil, List.append_assoc]
                       refine WL.back (rL r172.2 (opS r168.2.ll)) ?_
                       simp only [List.cons_append, List.nil_append, List.append_nil, List.append_assoc]
                       rw [h168.2] at h172 ⊢
                       refine oas ?_
                       refine nx ?_
                       refine omv ?_
                       refine ov (V_eqlP (by kernel_rfl) rfl rfl) ?_
                       refine nq ?_
                       refine W.cond_false rfl rfl ?_
                       refine W.skip ?_
                       refine WQ.block_normal ?_
                       have hI2 := SI.new (crD_ok hI.ji.ok (kept := oz.kept)) h160 h163 h168 h172
                       obtain ⟨jj, bb, mm, gg⟩ := r163
                       obtain ⟨jj2, gg2⟩ := r168
                       obtain ⟨rb2, oo⟩ := r172
                       dsimp only at hI2 ⊢
                       generalize opS (opL (crD D oz.kept)) = SS at hI2 ⊢
                       generalize crD D oz.kept = E at hI2 ⊢
                       obtain ⟨RR, hx⟩ : ∃ x, x = b160 := ⟨_, rfl⟩
                       subst hx
                       exact jn (E, RR, jj, gg, bb, mm, SS, jj2, gg2, rb2, oo) [10, 11, 12, 14, 17, 0, 1, 4, 5, 6, 7, 8, 9, 15, 16, 45, 70, 88] (by (try dsimp only); exact hI2) rfl cov
                     · refine dr (.q 0 (.q 1 (.q 2 (.q 4 (.q 5 (.q 6 (.l 3 (.l 7 (.q 8 (.q 9 (.done))))))))))) [(b16, _)] ?_
                       refine dq rfl (V_move rfl) ?_
                       refine dq rfl (vfa0 5 1) ?_
                       refine dq rfl vld ?_
                       refine dq rfl (V_move rfl) ?_
                       refine dq rfl (vfa0 5 1) ?_
                       refine dq rfl vld ?_
                       refine WD.l ?_
                       refine dcgP _ rfl rfl (fun w hp => append22_calls b28 D hI.ji.ok j ga hI.ji.gok hI.ji.len oz.A oz.n oz.cap oz.b ho.by_ ho.cap.1 hob.symm w (HP.here hp cov) (fun w1 M h1 => Sr.pastP hp h1 (hs := by exact ho.s.old0))) (fun r99 h99 => ?_)
                       simp only [List.cons_append, List.nil_append, List.append_nil, List.append_assoc]
                       refine WD.back (gRL 5 31 r99) ?_
                       simp only [List.cons_append, List.nil_append, List.append_nil, List.append_assoc]
                       refine WD.l ?_
                       refine dcgP _ rfl rfl (fun w hp => rappend22_calls b33 D R hI.ji.ok hI.ji.rl j2 gb hI.ji.gok2 hI.len2 oz.A oz.n oz.cap oz.b ho.by_ ho.cap.1 hob.symm w (HP.here hp cov) (fun w1 M h1 => Sr.pastP hp h1 (hs := by exact ho.s.old0))) (fun r103 h103 => ?_)
                       simp only [List.cons_append, List.nil_append, List.append_nil, List.append_assoc]
                       refine WD.back (gRL 5 31 r103.2) ?_
                       simp only [List.cons_append, List.nil_append, List.append_nil, List.append_assoc]
                       refine dq rfl (v2 V_eql) ?_
                       refine dq rfl (V_assign rfl) ?_
                       refine WD.done ?_
                       refine WQ.block_normal ?_
                       have hI2 := hI.ap ho.by_ h99 h103
                       rw [hI.ji.lens, show decide (apE D ga.rs.length oz.b = apE D ga.rs.length oz.b) = true from decide_eq_true rfl]
                       clear h99 h103
                       obtain ⟨RR, gg2⟩ := r103
                       dsimp only at hI2 ⊢
                       generalize apD D ga.rs.length oz.b = E at hI2 ⊢
                       obtain ⟨gg, hx⟩ : ∃ x, x = r99 := ⟨_, rfl⟩
                       subst hx
                       obtain ⟨SS, hx⟩ : ∃ x, x = S := ⟨_, rfl⟩
                       subst hx
                       obtain ⟨oo, hx⟩ : ∃ x, x = og := ⟨_, rfl⟩
                       subst hx
                       obtain ⟨jj, hx⟩ : ∃ x, x = j := ⟨_, rfl⟩
                       subst hx
                       obtain ⟨bb, hx⟩ : ∃ x, x = b := ⟨_, rfl⟩
                       subst hx
                       obtain ⟨mm, hx⟩ : ∃ x, x = mb := ⟨_, rfl⟩
                       subst hx
                       obtain ⟨jj2, hx⟩ : ∃ x, x = j2 := ⟨_, rfl⟩
                       subst hx
                       obtain ⟨rb2, hx⟩ : ∃ x, x = rb := ⟨_, rfl⟩
                       subst hx
                       exact jn (E, RR, jj, gg, bb, mm, SS, jj2, gg2, rb2, oo) [10, 11, 12, 14, 17, 0, 1, 4, 5, 6, 7, 8, 9, 15, 16, 45, 70, 88] (by (try dsimp only); exact hI2) rfl cov
         · rintro ⟨E, RR, jj, gg, bb, mm, SS, jj2, gg2, rb2, oo⟩ hI2; dsimp only at hI2 ⊢
           simp only [List.cons_append, List.nil_append]
           refine sr ?_
           refine omv ?_
           refine ov (vfa0 2 1) ?_
           refine ov vld ?_
           refine cms rfl (fun w hp => of23_calls bb mm jj SS hI2.ls oz.i w (HP.here hp cov)) ?_
           refine omv ?_
           refine ov vex ?_
           refine ov vex ?_
           refine ov vex ?_
           refine oas ?_
           refine oas ?_
           refine oas ?_
           refine nx ?_
           refine omv ?_
           refine ov (vfa0 2 1) ?_
           refine ov vld ?_
           refine cgP (ι := Unit) (A := fun _ => True) (V := fun _ => .tuple #[.int .i64 (ofS SS oz.i).a, .bool (ofS SS oz.i).c, .bool (SS.get oz.i).isSome]) (M := fun _ => ((rb2, .cells [(1, [.pointer (some ⟨jj2, 0, none⟩)]), (1, [.slice (gA oo) SS.m.length (gC oo)])] 135) :: rL oo SS : List (Nat × Blk))) _ rfl (fun w hp => (rof23_calls rb2 jj2 oo SS hI2.ls hI2.o (by have := hI2.s64; omega) oz.i w (HP.here hp cov)).mono fun e w' ⟨h1, h2⟩ => ⟨(), trivial, h1, h2⟩) (fun _ _ => ?_)
           simp only [List.cons_append, List.nil_append, List.append_nil, List.append_assoc]
           refine WL.back (rL oo SS) ?_
           simp only [List.cons_append, List.nil_append, List.append_nil, List.append_assoc]
           refine omv ?_
           refine ov vex ?_
           refine ov vex ?_
           refine ov vex ?_
           refine oas ?_
           refine oas ?_
           refine oas ?_
           refine nq ?_
           refine W.seq ?_
           refine sr ?_
           refine omv ?_
           refine ov vnot ?_
           refine omv ?_
           refine oy rfl rfl ?_
           refine omv ?_
           refine oy rfl rfl ?_
           refine omv ?_
           refine oy rfl rfl ?_
           refine ov (v2 V_neq) ?_
           refine ov (V_pick_f rfl rfl rfl) ?_
           refine omv ?_
           refine oy rfl (by simp) ?_
           refine omv ?_
           refine oy rfl (by simp) ?_
           refine omv ?_
           refine oy rfl (by simp) ?_
           refine ov (V_neqB (by kernel_rfl) rfl rfl) ?_
           refine ov (V_pick_f rfl (by simp) rfl) ?_
           refine omv ?_
           refine oy rfl (by simp) ?_
           refine omv ?_
           refine oy rfl (by simp) ?_
           refine omv ?_
           refine oy rfl (by simp) ?_
           refine ov (V_neqB (by kernel_rfl) rfl rfl) ?_
           refine ov (V_pick_f rfl (by simp) rfl) ?_
           refine nq ?_
           refine W.cond_false rfl (by simp) ?_
           refine W.skip ?_
           refine WQ.then ?_
           refine sr ?_
           refine oas ?_
           refine nq ?_
           refine W.block ?_
           -- LOOP 1
           refine W.pick (S' := [(24, _), (0, _), (1, _), (4, _), (5, _), (6, _), (7, _), (8, _), (9, _), (10, _), (11, _), (12, _), (14, _), (15, _), (16, _), (17, _), (18, _), (19, _), (20, _), (21, _), (22, _), (23, _), (45, _), (70, _), (88, _), (207, _)]) [24, 0, 1, 4, 5, 6, 7, 8, 9, 10, 11, 12, 14, 15, 16, 17, 18, 19, 20, 21, 22, 23, 45, 70, 88, 207] rfl ?_
           refine W.loopG (σ := Nat) (fun q => q ≤ 10) (fun q => [(24, .int .i64 ((q : Int) - 1))]) (fun q => [(b28.d, .cells [(1, [.slice (some ⟨b28.s, 0, none⟩) E.n E.n]), (1, [.map (some b28.m)]), (1, [.int .i64 E.fuse]), (1, [.bool E.dead])] 101), (b28.s, .cells [(E.n * 64, iv .u8 E.sure.flatten)] 58), (b28.m, .obj (mapO .i64 (E.m.map sE) E.ck)), (jj, .cells [(1, [.pointer (some ⟨b28.d, 0, none⟩)]), (1, [.int .i64 (gg.rs.length : Nat)]), (1, [.int .i64 (E.n : Nat)]), (1, [.slice (gA gg.o) gg.rs.length (gC gg.o)])] 103), (bb, .cells [(1, [.pointer (some ⟨jj, 0, none⟩)]), (1, [.map (some mm)])] 121), (mm, .obj (mapO .i64 (SS.m.map (gE stkV)) SS.ck)), (b33.d, .cells [(1, [.slice (some ⟨b33.s, 0, none⟩) RR.n RR.n]), (1, [.slice (some ⟨b33.x, 0, none⟩) RR.n RR.n]), (1, [.slice (some ⟨b33.i, 0, none⟩) RR.n RR.n]), (1, [.int .i64 RR.fuse]), (1, [.bool RR.dead])] 130), (b33.s, .cells [(RR.n * 64, iv .u8 RR.sure.flatten)] 72), (b33.x, .cells [(RR.n * 64, iv .u8 RR.new.flatten)] 72), (b33.i, .cells [(RR.n, bv RR.iss), (RR.n - RR.n, [])] 4), (jj2, .cells [(1, [.pointer (some ⟨b33.d, 0, none⟩)]), (1, [.slice (gA gg2.o) gg2.rs.length (gC gg2.o)])] 88), (rb2, .cells [(1, [.pointer (some ⟨jj2, 0, none⟩)]), (1, [.slice (gA oo) SS.m.length (gC oo)])] 135), (b16, .cells [(1, [.int .i64 oz.do_]), (1, [.int .i64 oz.a]), (1, [.int .i64 oz.i]), (1, [.int .i64 oz.now]), (1, [.int .u64 oz.kept]), (1, [.slice oz.A oz.n oz.cap])] 96)]) [] (fun q => gRL 5 31 gg ++ (gRL 5 31 gg2 ++ rL oo SS)) (fun q => 10 - q) 0 rfl cov (Nat.zero_le _) ?_
           rintro q hi
           refine W.seq ?_
           refine sr ?_
           refine omv ?_
           refine ov (v2 V_lss) ?_
           refine nq ?_
           refine W.cond_dec rfl (fun g10 => ?_) (fun g10 => ?_)
           · refine W.skip ?_
             refine WQ.then ?_
             refine W.seq ?_
             refine W.block ?_
             refine W.seq ?_
             refine dr (.q 0 (.q 1 (.q 2 (.q 3 (.q 5 (.q 6 (.q 7 (.q 8 (.l 4 (.l 9 (.q 10 (.q 11 (.q 12 (.q 13 (.q 14 (.q 15 (.q 17 (.q 18 (.q 19 (.q 20 (.l 16 (.l 21 (.q 22 (.q 23 (.done))))))))))))))))))))))))) [(b16, _)] ?_
             refine dq rfl (V_move rfl) ?_
             refine dq rfl (V_move rfl) ?_
             refine dq rfl (vfa0 3 1) ?_
             refine dq rfl vld ?_
             refine dq rfl (V_move rfl) ?_
             refine dq rfl (V_move rfl) ?_
             refine dq rfl (vfa0 3 1) ?_
             refine dq rfl vld ?_
             refine WD.l ?_
             refine dcms rfl rfl (fun w hp => count23_calls bb mm jj SS hI2.ls (by have := hI2.s64; omega) ((q : Int) - 1) oz.now ho.now w (HP.here hp cov)) ?_
             refine WD.l ?_
             refine dcgP (ι := Unit) (A := fun _ => True) (V := fun _ => .int .i64 (cnt SS.m ((q : Int) - 1) oz.now : Nat)) (M := fun _ => ((rb2, .cells [(1, [.pointer (some ⟨jj2, 0, none⟩)]), (1, [.slice (gA oo) SS.m.length (gC oo)])] 135) :: rL oo SS : List (Nat × Blk))) _ rfl rfl (fun w hp => (rcount23_calls rb2 jj2 oo SS hI2.ls hI2.o (by have := hI2.s64; omega) ((q : Int) - 1) oz.now ho.now w (HP.here hp cov)).mono fun e w' ⟨h1, h2⟩ => ⟨(), trivial, h1, h2⟩) (fun _ _ => ?_)
             simp only [List.cons_append, List.nil_append, List.append_nil, List.append_assoc]
             refine WD.back (rL oo SS) ?_
             simp only [List.cons_append, List.nil_append, List.append_nil, List.append_assoc]
             refine dq rfl (v2 V_neq) ?_
             refine dq rfl (V_move rfl) ?_
             refine dy rfl rfl (by simp) (V_move rfl) ?_
             refine dy rfl rfl (by simp) (V_move rfl) ?_
             refine dy rfl rfl (by simp) (vfa0 3 1) ?_
             refine dy rfl rfl (by simp) vld ?_
             refine dy rfl rfl (by simp) (V_move rfl) ?_
             refine dy rfl rfl (by simp) (V_move rfl) ?_
             refine dy rfl rfl (by simp) (vfa0 3 1) ?_
             refine dy rfl rfl (by simp) vld ?_
             refine WD.l ?_
             refine dcms rfl rfl (fun w hp => susp23_calls bb mm jj SS hI2.ls (by have := hI2.s64; omega) ((q : Int) - 1) oz.now ho.now w (HP.here hp cov)) ?_ (hg := gy rfl (by simp))
             refine WD.l ?_
             refine dcgP (ι := Unit) (A := fun _ => True) (V := fun _ => .bool (decide (3 ≤ cnt SS.m ((q : Int) - 1) oz.now))) (M := fun _ => ((rb2, .cells [(1, [.pointer (some ⟨jj2, 0, none⟩)]), (1, [.slice (gA oo) SS.m.length (gC oo)])] 135) :: rL oo SS : List (Nat × Blk))) _ rfl rfl (fun w hp => (rsusp23_calls rb2 jj2 oo SS hI2.ls hI2.o (by have := hI2.s64; omega) ((q : Int) - 1) oz.now ho.now w (HP.here hp cov)).mono fun e w' ⟨h1, h2⟩ => ⟨(), trivial, h1, h2⟩) (fun _ _ => ?_) (hgd := gy rfl (by simp))
             simp only [List.cons_append, List.nil_append, List.append_nil, List.append_assoc]
             refine WD.back (rL oo SS) ?_
             simp only [List.cons_append, List.nil_append, List.append_nil, List.append_assoc]
             refine dy rfl rfl (by simp) (V_neqB (by kernel_rfl) rfl rfl) ?_
             refine dq rfl (V_pick_f rfl (by simp) rfl) ?_
             refine WD.done ?_
             refine WQ.then ?_
             refine W.cond_false rfl (by simp) ?_
             refine W.skip ?_
             refine WQ.block_normal ?_
             refine WQ.then ?_
             refine W.region ?_
             refine omv ?_
             first | refine ov vaddN ?_ | refine ov vadd ?_
             refine oas ?_
             refine WL.nil ?_
             rw [show ((q : Int) - 1) + 1 = ((q + 1 : Nat) : Int) - 1 from by omega]
             exact ag (q + 1) [24, 0, 1, 4, 5, 6, 7, 8, 9, 10, 11, 12, 14, 15, 16, 17, 18, 19, 20, 21, 22, 23, 45, 70, 88, 207] (sc) (by (try dsimp only); omega) rfl cov
           · refine W.exit ?_
             refine WQ.then_exit ?_
             refine WQ.then_exit ?_
             refine WQ.block_hit ?_
             refine WQ.block_normal ?_
             refine WQ.then ?_
             refine W.region ?_
             refine omv ?_
             first | refine ov vaddN ?_ | refine ov vadd ?_
             refine oas ?_
             refine WL.nil ?_
             exact ag (i + 1, E, RR, jj, gg, bb, mm, SS, jj2, gg2, rb2, oo) [10, 11, 12, 14, 15, 0, 1, 4, 5, 6, 7, 8, 9, 45] (by (try dsimp only); exact ⟨by omega, hI2⟩) (by (try dsimp only); omega) rfl cov
     · refine W.exit ?_
       refine WQ.then_exit ?_
       refine WQ.then_exit ?_
       refine WQ.block_hit ?_
       refine WQ.then ?_
       refine sr ?_
       refine omv ?_
       refine oas ?_
       refine nq ?_
       refine W.ret ?_
       refine WQ.ret1 Try.results14 (.tmp rfl) ?_
       intro w' hp; exact ⟨by first | rfl | (simp; done) | (simp [*]; done) | simp_all, hp.forget⟩
   · refine on rfl (decide_eq_false g1) ?_
     refine on rfl (decide_eq_false g1) ?_
     refine ov (V_pick_fd rfl g1 rfl) ?_
     refine nq ?_
     refine W.cond_false rfl rfl ?_
     refine W.exit ?_
     refine WQ.then_exit ?_
     refine WQ.then_exit ?_
     refine WQ.block_hit ?_
     refine WQ.then ?_
     refine sr ?_
     refine omv ?_
     refine oas ?_
     refine nq ?_
     refine W.ret ?_
     refine WQ.ret1 Try.results14 (.tmp rfl) ?_
     intro w' hp; exact ⟨by first | rfl | (simp; done) | (simp [*]; done) | simp_all, hp.forget⟩
 · refine W.region ?_
   refine omv ?_
   refine cp rfl (fun w hp => new21_bad many hm w) ?_
   refine omv ?_
   refine ov vex ?_
   refine ov vex ?_
   refine oas ?_
   refine oas ?_
   refine nx ?_
   refine omv ?_
   refine cp rfl (fun w hp => rnew21_bad many hm w) ?_
   refine omv ?_
   refine ov vex ?_
   refine ov vex ?_
   refine oas ?_
   refine oas ?_
   refine nq ?_
   refine W.seq ?_
   refine sr ?_
   refine omv ?_
   refine ov (V_eqlP (by kernel_rfl) rfl rfl) ?_
   refine omv ?_
   refine on rfl rfl ?_
   refine on rfl rfl ?_
   refine ov (V_pick_t rfl rfl rfl) ?_
   refine omv ?_
   refine on rfl rfl ?_
   refine on rfl rfl ?_
   refine ov (V_pick_t rfl rfl rfl) ?_
   refine nq ?_
   refine W.cond_true rfl rfl ?_
   refine sr ?_
   refine omv ?_
   refine omv ?_
   refine oy rfl rfl ?_
   refine omv ?_
   refine oy rfl rfl ?_
   refine ov (v2 V_neq) ?_
   refine ov (V_pick_t rfl rfl rfl) ?_
   refine oas ?_
   refine nq ?_
   refine W.ret ?_
   refine WQ.then_ret ?_
   refine WQ.ret1 Try.results14 (.tmp rfl) ?_
   intro w' hp; exact ⟨by first | rfl | (simp; done) | (simp [*]; done) | simp_all, hp.forget⟩

end Go.Proofs.Ytnpnnafcdnefiaa