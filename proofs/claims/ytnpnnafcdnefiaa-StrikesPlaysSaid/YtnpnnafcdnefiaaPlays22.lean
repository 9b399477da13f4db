/- JournalPlays. -/
import Derived.Test.YtnpnnafcdnefiaaLaws22
import Derived.Test.YtnpnnafcdnefiaaXC
import Derived.Test.YtnpnnafcdnefiaaRef4
set_option linter.unusedVariables false
set_option linter.unusedSimpArgs false

namespace Go.Proofs.Ytnpnnafcdnefiaa
open Go.X
theorem wfu64 {n : Int} (h : (Lit.int .u64 n).wf = true) : 0 ≤ n ∧ n ≤ 18446744073709551615 := by
  simp [Lit.wf, IntKind.min, IntKind.max, IntKind.signed, IntKind.bits] at h
  omega
theorem list_choose22 {α β : Type} {f : α → β} {p : α → Prop} : ∀ {es : List β}, (∀ e ∈ es, ∃ o, e = f o ∧ p o) → ∃ l : List α, es = l.map f ∧ ∀ o ∈ l, p o
  | [], _ => ⟨[], rfl, fun o h => by cases h⟩
  | e :: es, h => by
    obtain ⟨o, rfl, ho⟩ := h e List.mem_cons_self
    obtain ⟨l, rfl, hl⟩ := list_choose22 (f := f) (p := p) (es := es) fun x hx => h x (List.mem_cons_of_mem _ hx)
    exact ⟨o :: l, rfl, fun x hx => by rcases List.mem_cons.1 hx with rfl | hx; exact ho; exact hl x hx⟩
structure Op22 where
  do_ : Int
  i : Int
  A : Option Addr
  n : Nat
  cap : Nat
  b : List Int
  kept : Int
instance : Inhabited Op22 := ⟨⟨0, 0, none, 0, 0, [], 0⟩⟩
def Op22.c (o : Op22) : List Value := [.int .i64 o.do_, .int .i64 o.i, .slice o.A o.n o.cap, .int .u64 o.kept]
structure Op22.OK (w : World) (o : Op22) : Prop where
  i : -9223372036854775808 ≤ o.i ∧ o.i ≤ 9223372036854775807
  kept : 0 ≤ o.kept ∧ o.kept ≤ 18446744073709551615
  d : -9223372036854775808 ≤ o.do_ ∧ o.do_ ≤ 9223372036854775807
  s : SrW w 1 o.A o.n (iv .u8 o.b)
  by_ : bytes o.b
  cap : o.n ≤ o.cap ∧ o.cap ≤ 9223372036854775807
theorem Op22.len (o : Op22) : o.c.length = 4 := rfl
theorem Op22.OK.bl {w : World} {o : Op22} (h : o.OK w) : o.b.length = o.n := (SrW.ilen h.s).symm
theorem wfu8 {l : List Int} (h : ∀ c ∈ l, (Lit.int .u8 c).wf = true) : bytes l := fun c hc => wf_u8 (h c hc)
theorem ops22_of {w : World} {A : Option Addr} {n cap : Nat} (h : okD w (.sl (.fcons (.int .i64) (.fcons (.int .i64) (.fcons (.sl (.int .u8)) (.fcons (.int .u64) .fnil))))) [.slice A n cap]) :
    n ≤ cap ∧ cap ≤ maxLen ∧ ∃ l : List Op22, l.length = n ∧ SrW w 1 A (n * 4) (l.flatMap Op22.c) ∧ ∀ o ∈ l, o.OK w := by
  obtain ⟨h1, h2, es, h3, h4, h5⟩ := okD_els (by decide) h
  obtain ⟨l, rfl, hl⟩ := list_choose22 (f := Op22.c) (p := Op22.OK w) (es := es) fun e he => by
    obtain ⟨x0, y0, rfl, ⟨a0, rfl, w0⟩, o1⟩ := okD_fcons (h4 e he).1
    obtain ⟨x1, y1, rfl, ⟨a1, rfl, w1⟩, o2⟩ := okD_fcons o1
    obtain ⟨x2, y2, rfl, q2, o3⟩ := okD_fcons o2
    obtain ⟨x3, y3, rfl, ⟨a3, rfl, w3⟩, o4⟩ := okD_fcons o3
    obtain rfl : y3 = [] := o4
    obtain ⟨A2, n2, c2, rfl, _⟩ := id q2
    obtain ⟨k1, k2, b, k3, k4⟩ := okD_ints q2
    exact ⟨⟨a0, a1, A2, n2, c2, b, a3⟩, rfl, wf_i64 w1, wfu64 w3, wf_i64 w0, k3, wfu8 k4, k1, by unfold maxLen at k2; omega⟩
  exact ⟨h1, h2, l, by simpa using h3, by rw [List.flatMap_def]; exact h5, hl⟩
theorem apE_ok {D : DS} {m : Nat} {b : List Int} (h : apE D m b = 0) : b.length ≤ 59 ∧ m < D.n := by
  refine ⟨?_, ?_⟩
  · by_cases h1 : 59 < b.length
    · rw [(ap_long h1).1] at h; cases h
    · omega
  · by_cases h1 : 59 < b.length
    · rw [(ap_long h1).1] at h; cases h
    · by_cases h2 : D.n ≤ m
      · rw [(ap_full h1 h2).1] at h; cases h
      · omega
/-- What both journals hold. -/
structure JI (D : DS) (R : RS) (g g2 : GR) : Prop where
  ok : DOK D
  rl : Rl D R
  gok : g.OK
  gok2 : g2.OK
  ll : g.ll = g2.ll
  len : g.rs.length ≤ D.n
  le : ∀ l ∈ g.ll, l.length ≤ 59
theorem JI.lens {D : DS} {R : RS} {g g2 : GR} (h : JI D R g g2) : g2.rs.length = g.rs.length := by rw [← GR.ll_len, ← GR.ll_len, h.ll]
theorem JI.new {D : DS} {R : RS} {g g2 : GR} (hk : DOK D) (hr : Rl D R) (h1 : g.OK ∧ g.ll = opL D) (h2 : g2.OK ∧ g2.ll = opL D) : JI D R g g2 :=
  ⟨hk, hr, h1.1, h2.1, h1.2.trans h2.2.symm, by rw [← GR.ll_len, h1.2]; exact opL_len, by rw [h1.2]; exact opL_le hk⟩
theorem JI.ap {D : DS} {R : RS} {g g2 r : GR} {b : List Int} {q : RS × GR} (h : JI D R g g2) (hb : bytes b) (h1 : r.OK ∧ r.ll = apL D g.ll b) (h2 : Rl (apD D g2.rs.length b) q.1 ∧ q.2.OK ∧ q.2.ll = apL D g2.ll b) : JI (apD D g.rs.length b) q.1 r q.2 := by
  have hl := h.len
  rw [h.lens] at h2
  refine ⟨apD_ok h.ok hb, h2.1, h1.1, h2.2.1, by rw [h1.2, h2.2.2, h.ll], ?_, fun l hm => ?_⟩
  · rw [apD_n, ← GR.ll_len, h1.2]
    unfold apL; split
    · rename_i e
      have := (apE_ok e).2
      simp; omega
    · rw [GR.ll_len]; exact hl
  · rw [h1.2] at hm
    unfold apL at hm; split at hm
    · rename_i e
      rcases List.mem_append.1 hm with hm | hm
      · exact h.le l hm
      · rw [List.mem_singleton.1 hm]; exact (apE_ok e).1
    · exact h.le l hm
theorem JI.step {D E : DS} {R R' : RS} {g g2 : GR} (h : JI D R g g2) (hk : DOK E) (hr : Rl E R') (hn : E.n = D.n) : JI E R' g g2 := ⟨hk, hr, h.gok, h.gok2, h.ll, by rw [hn]; exact h.len, h.le⟩
/-- A sector of some bytes. -/
def pad (b : List Int) (k : Nat) : List Int := b.take k ++ List.replicate (64 - k) 0
theorem pad_sec {b : List Int} (hb : bytes b) {k : Nat} (h1 : k ≤ b.length) (h2 : k ≤ 64) : Sec (pad b k) := ⟨by simp [pad]; omega, (hb.take k).app bytes_rep⟩
theorem pad_next {b : List Int} {k : Nat} (h1 : k < b.length) (h2 : k < 64) : (pad b k).set k (b.getD k 0) = pad b (k + 1) := by
  unfold pad
  have e : (b.take k).length = k := by simp; omega
  have e2 : b.getD k 0 = b[k] := by rw [List.getD_eq_getElem?_getD, List.getElem?_eq_getElem h1]; rfl
  rw [show 64 - k = (64 - (k + 1)) + 1 by omega, List.replicate_succ, List.set_append_right _ _ (by omega), List.take_succ_eq_append_getElem h1, e, Nat.sub_self, e2, List.set_cons_zero, List.append_assoc]
  rfl

set_option maxHeartbeats 4000000 in
theorem journalPlays_calls (many : Int) (A : Option Addr) (n cap : Nat) (l : List Op22) (w : World) (hs : SrW w 1 A (n * 4) (l.flatMap Op22.c)) (hl : l.length = n) (hok : ∀ o ∈ l, o.OK w) (hc : n ≤ cap) (hn2 : n ≤ 9223372036854775807) :
    Calls Try.prog 12 [.int .i64 many, .slice A n cap].toArray w fun e w' => e = .returned (.bool true) ∧ HP w w' [] [] := by
 refine calls_of_W Try.func12 rfl Try.ntmps12 rfl rfl (HP.refl w []) ?_
 refine sr ?_
 refine oas ?_
 refine nx ?_
 refine cp rfl (fun w hp => awake22_calls w) ?_
 refine oas ?_
 refine nq ?_
 refine W.seq ?_
 by_cases hm : 1 ≤ many ∧ many ≤ 64
 · obtain ⟨mn, rfl⟩ : ∃ m : Nat, many = m := ⟨many.toNat, by omega⟩
   refine W.region ?_
   refine omv ?_
   refine cg rfl (fun w hp => new21_calls mn (by omega) (by omega) w) (fun b23 h23 => ?_)
   refine omv ?_
   refine ov vex ?_
   refine ov vex ?_
   refine oas ?_
   refine oas ?_
   refine nx ?_
   refine omv ?_
   refine cg rfl (fun w hp => rnew21_calls mn (by omega) (by omega) w) (fun b28 h28 => ?_)
   refine omv ?_
   refine ov vex ?_
   refine ov vex ?_
   refine oas ?_
   refine oas ?_
   refine nq ?_
   refine W.seq ?_
   refine sr ?_
   refine omv ?_
   refine ov (V_eqlP (by kernel_rfl) rfl rfl) ?_
   refine omv ?_
   refine oy rfl rfl ?_
   refine omv ?_
   refine oy rfl rfl ?_
   refine ov (v2 V_neq) ?_
   refine ov (V_pick_f rfl rfl rfl) ?_
   refine omv ?_
   refine oy rfl (by decide) ?_
   refine omv ?_
   refine oy rfl (by decide) ?_
   refine ov (v2 V_neq) ?_
   refine ov (V_pick_f rfl (by decide) rfl) ?_
   refine nq ?_
   refine W.cond_false rfl (by decide) ?_
   refine W.skip ?_
   refine WQ.then ?_
   refine W.seq ?_
   have k0 := newD_ok (n := mn) (by omega) (by omega)
   refine W.region ?_
   refine omv ?_
   refine cgP _ rfl (fun w hp => open22_calls b23 (newD mn) k0 w (HP.here hp cov)) (fun r48 h48 => ?_)
   simp only [List.cons_append, List.nil_append, List.append_nil, List.append_assoc]
   refine WL.back (gRL 5 31 r48.2) ?_
   simp only [List.cons_append, List.nil_append, List.append_nil, List.append_assoc]
   refine omv ?_
   refine ov vex ?_
   refine ov vex ?_
   refine oas ?_
   refine oas ?_
   refine nx ?_
   refine omv ?_
   refine cgP _ rfl (fun w hp => ropen22_calls b28 (newD mn) (newR mn) k0 newR_rl w (HP.here hp cov)) (fun r53 h53 => ?_)
   simp only [List.cons_append, List.nil_append, List.append_nil, List.append_assoc]
   refine WL.back (gRL 5 31 r53.2) ?_
   simp only [List.cons_append, List.nil_append, List.append_nil, List.append_assoc]
   refine omv ?_
   refine ov vex ?_
   refine ov vex ?_
   refine oas ?_
   refine oas ?_
   refine nq ?_
   refine W.seq ?_
   refine sr ?_
   refine oas ?_
   refine nq ?_
   refine W.block ?_
   -- LOOP 0
   refine W.pick (S' := [(10, _), (12, _), (14, _), (0, _), (1, _), (4, _), (5, _), (6, _), (7, _), (8, _), (9, _), (40, _)]) [10, 12, 14, 0, 1, 4, 5, 6, 7, 8, 9, 40] rfl ?_
   refine W.loopG (σ := Nat × DS × RS × Nat × GR × Nat × GR) (fun ⟨i, D, R, j, ga, j2, gb⟩ => i ≤ n ∧ JI D R ga gb) (fun ⟨i, D, R, j, ga, j2, gb⟩ => [(10, .pointer (some ⟨j, 0, none⟩)), (12, .pointer (some ⟨j2, 0, none⟩)), (14, .int .i64 (i : Nat))]) (fun ⟨i, D, R, j, ga, j2, gb⟩ => [(b23.d, .cells [(1, [.slice (some ⟨b23.s, 0, none⟩) D.n D.n]), (1, [.map (some b23.m)]), (1, [.int .i64 D.fuse]), (1, [.bool D.dead])] 101), (b23.s, .cells [(D.n * 64, iv .u8 D.sure.flatten)] 58), (b23.m, .obj (mapO .i64 (D.m.map sE) D.ck)), (j, .cells [(1, [.pointer (some ⟨b23.d, 0, none⟩)]), (1, [.int .i64 (ga.rs.length : Nat)]), (1, [.int .i64 (D.n : Nat)]), (1, [.slice (gA ga.o) ga.rs.length (gC ga.o)])] 103), (b28.d, .cells [(1, [.slice (some ⟨b28.s, 0, none⟩) R.n R.n]), (1, [.slice (some ⟨b28.x, 0, none⟩) R.n R.n]), (1, [.slice (some ⟨b28.i, 0, none⟩) R.n R.n]), (1, [.int .i64 R.fuse]), (1, [.bool R.dead])] 130), (b28.s, .cells [(R.n * 64, iv .u8 R.sure.flatten)] 72), (b28.x, .cells [(R.n * 64, iv .u8 R.new.flatten)] 72), (b28.i, .cells [(R.n, bv R.iss), (R.n - R.n, [])] 4), (j2, .cells [(1, [.pointer (some ⟨b28.d, 0, none⟩)]), (1, [.slice (gA gb.o) gb.rs.length (gC gb.o)])] 88)]) [] (fun ⟨i, D, R, j, ga, j2, gb⟩ => gRL 5 31 ga ++ gRL 5 31 gb) (fun ⟨i, D, R, j, ga, j2, gb⟩ => n - i) (0, newD mn, newR mn, r48.1, r48.2, r53.1, r53.2) rfl cov ⟨Nat.zero_le _, JI.new k0 newR_rl h48 h53⟩ ?_
   rintro ⟨i, D, R, j, ga, j2, gb⟩ ⟨hi, hI⟩; dsimp only at hi hI ⊢
   simp only [List.cons_append, List.nil_append]
   refine W.seq ?_
   refine sr ?_
   refine omv ?_
   refine omv ?_
   refine ov vlenS ?_
   refine ov (v2 V_lss) ?_
   refine omv ?_
   refine WL.splitD rfl (fun g1 => ?_) (fun g1 => ?_)
   · refine oy rfl (decide_eq_true g1) ?_
     refine omv ?_
     refine oy rfl (decide_eq_true g1) ?_
     refine ov (v2 V_lss) ?_
     refine ov (V_pick_td rfl g1 rfl) ?_
     refine nq ?_
     refine W.cond_dec rfl (fun g2 => ?_) (fun g2 => ?_)
     · refine W.skip ?_
       refine WQ.then ?_
       refine W.seq ?_
       refine W.block ?_
       refine W.seq ?_
       have ho : Op22.OK w (l.getD i default) := by rw [List.getD_eq_getElem?_getD, List.getElem?_eq_getElem (by omega)]; exact hok _ (List.getElem_mem (by omega))
       refine W.region ?_
       refine omv ?_
       refine omv ?_
       obtain ⟨bbA, ooA, rfl⟩ := hs.hasN sc
       refine ov (viO 4) ?_
       refine ov (vldOA (ds := [(1, [.int .i64 (l.getD i default).do_]), (1, [.int .i64 (l.getD i default).i]), (1, [.slice (l.getD i default).A (l.getD i default).n (l.getD i default).cap]), (1, [.int .u64 (l.getD i default).kept])]) 4 i Op22.len hs rfl) ?_
       refine oal [(1, [.int .i64 0]), (1, [.int .i64 0]), (1, [.slice none 0 0]), (1, [.int .u64 0])] (fun b15 => ?_)
       refine osta 4 ?_
       refine nq ?_
       refine W.seq ?_
       refine W.seq ?_
       generalize l.getD i default = o at ho ⊢
       have hob := ho.bl
       have hos := ho.s
       have hocap := ho.cap
       refine W.region ?_
       refine ov (vfa0 2 1) ?_
       refine ov vld ?_
       refine ov vlenS ?_
       refine ov (v2 V_gtr) ?_
       refine omv ?_
       refine WL.splitD rfl (fun g3 => ?_) (fun g3 => ?_)
       · refine on rfl (decide_eq_true g3) ?_
         refine on rfl (decide_eq_true g3) ?_
         refine ov (V_pick_td rfl g3 rfl) ?_
         refine nq ?_
         refine W.cond_true rfl rfl ?_
         refine sr ?_
         refine omv ?_
         refine omv ?_
         refine oy rfl rfl ?_
         refine omv ?_
         refine oy rfl rfl ?_
         refine ov (V_neqP (by kernel_rfl) rfl rfl) ?_
         refine ov (V_pick_t rfl rfl rfl) ?_
         refine oas ?_
         refine nq ?_
         refine W.ret ?_
         refine WQ.then_ret ?_
         refine WQ.block_ret ?_
         refine WQ.then_ret ?_
         refine WQ.then_ret ?_
         refine WQ.block_ret ?_
         refine WQ.then_ret ?_
         refine WQ.ret1 Try.results12 (.tmp rfl) ?_
         intro w' hp; exact ⟨by first | rfl | (simp; done) | (simp [*]; done) | simp_all, hp.forget⟩
       · refine oy rfl (decide_eq_false g3) ?_
         refine omv ?_
         refine oy rfl (decide_eq_false g3) ?_
         refine ov (V_eqlP (by kernel_rfl) rfl rfl) ?_
         refine ov (V_pick_fd rfl g3 rfl) ?_
         refine nq ?_
         refine W.cond_false rfl rfl ?_
         refine W.skip ?_
         refine WQ.then ?_
         refine sr ?_
         refine oas ?_
         refine nq ?_
         refine W.seq ?_
         refine sr ?_
         refine ov (vfa0 0 1) ?_
         refine ov vld ?_
         refine nq ?_
         refine W.block ?_
         refine W.seq ?_
         refine sr ?_
         refine ov (v2 V_eql) ?_
         refine oas ?_
         refine nq ?_
         refine W.cond_dec rfl (fun g4 => ?_) (fun g4 => ?_)
         · refine W.skip ?_
           refine WQ.then ?_
           refine W.cond_true rfl (decide_eq_true g4) ?_
           refine dr (.q 0 (.q 1 (.q 2 (.q 4 (.q 5 (.q 6 (.l 3 (.l 7 (.q 8 (.q 9 (.done))))))))))) [(b15, _)] ?_
           refine dq rfl (V_move rfl) ?_
           refine dq rfl (vfa0 2 1) ?_
           refine dq rfl vld ?_
           refine dq rfl (V_move rfl) ?_
           refine dq rfl (vfa0 2 1) ?_
           refine dq rfl vld ?_
           refine WD.l ?_
           refine dcgP _ rfl rfl (fun w hp => append22_calls b23 D hI.ok j ga hI.gok hI.len o.A o.n o.cap o.b ho.by_ ho.cap.1 hob.symm w (HP.here hp cov) (fun w1 M h1 => Sr.pastP hp h1 (hs := by exact ho.s.old0))) (fun r121 h121 => ?_)
           simp only [List.cons_append, List.nil_append, List.append_nil, List.append_assoc]
           refine WD.back (gRL 5 31 r121) ?_
           simp only [List.cons_append, List.nil_append, List.append_nil, List.append_assoc]
           refine WD.l ?_
           refine dcgP _ rfl rfl (fun w hp => rappend22_calls b28 D R hI.ok hI.rl j2 gb hI.gok2 (by rw [hI.lens]; exact hI.len) o.A o.n o.cap o.b ho.by_ ho.cap.1 hob.symm w (HP.here hp cov) (fun w1 M h1 => Sr.pastP hp h1 (hs := by exact ho.s.old0))) (fun r125 h125 => ?_)
           simp only [List.cons_append, List.nil_append, List.append_nil, List.append_assoc]
           refine WD.back (gRL 5 31 r125.2) ?_
           simp only [List.cons_append, List.nil_append, List.append_nil, List.append_assoc]
           refine dq rfl (v2 V_eql) ?_
           refine dq rfl (V_assign rfl) ?_
           refine WD.done ?_
           refine WQ.block_normal ?_
           refine WQ.then ?_
           refine W.seq ?_
           have hI2 := hI.ap ho.by_ h121 h125
           have hl2 := hI.lens
           clear h121 h125
           obtain ⟨RR, gg2⟩ := r125
           dsimp only at hI2 ⊢
           generalize apD D ga.rs.length o.b = E at hI2 ⊢
           obtain ⟨gg, hx⟩ : ∃ x, x = r121 := ⟨_, rfl⟩
           subst hx
           obtain ⟨jj, hx⟩ : ∃ x, x = j := ⟨_, rfl⟩
           subst hx
           obtain ⟨jj2, hx⟩ : ∃ x, x = j2 := ⟨_, rfl⟩
           subst hx
           refine dr (.q 0 (.q 2 (.q 3 (.q 4 (.q 5 (.l 1 (.l 6 (.q 7 (.done))))))))) [(jj2, _)] ?_
           refine dq rfl (V_move rfl) ?_
           refine dq rfl (V_move rfl) ?_
           refine dq rfl vnil ?_
           refine dq rfl (vfa0 1 1) ?_
           refine dq rfl vld ?_
           refine WD.l ?_
           refine dcgP _ rfl rfl (fun w hp => alll22_calls b23 E jj gg hI2.gok (by have := hI2.len; have := hI2.ok.n64; omega) (GR.le59 hI2.gok hI2.le) w (HP.here hp cov)) (fun r160 h160 => ?_)
           simp only [List.cons_append, List.nil_append, List.append_nil, List.append_assoc]
           refine WD.back (gRL 5 31 gg) ?_
           simp only [List.cons_append, List.nil_append, List.append_nil, List.append_assoc]
           refine WD.back (gRL 5 31 r160) ?_
           simp only [List.cons_append, List.nil_append, List.append_nil, List.append_assoc]
           refine WD.l ?_
           refine dcp rfl rfl (fun w hp => sameRows_calls _ _ _ _ _ _ _ _ w (GR.rows hp h160.1 (by have h1 : r160.rs.length = gg.rs.length := (by rw [← GR.ll_len, ← GR.ll_len, h160.2]); have := hI2.len; have := hI2.ok.n64; omega)) (GR.rows hp hI2.gok2 (by rw [hI2.lens]; have := hI2.len; have := hI2.ok.n64; omega))) ?_
           refine dq rfl (V_assign rfl) ?_
           refine WD.done ?_
           refine WQ.then ?_
           refine W.seq ?_
           have hl3 := hI2.lens
           refine dr (.q 0 (.q 1 (.q 2 (.q 3 (.q 4 (.q 5 (.q 6 (.q 7 (.q 9 (.q 10 (.q 11 (.q 12 (.q 13 (.l 8 (.q 14 (.q 15 (.done))))))))))))))))) [(jj2, _)] ?_
           refine dq rfl (V_move rfl) ?_
           refine dq rfl vnot ?_
           refine dq rfl (V_move rfl) ?_
           refine dy rfl rfl (not_t (by rw [hI.lens]; simp)) (V_move rfl) ?_
           refine dy rfl rfl (not_t (by rw [hI.lens]; simp)) vnot ?_
           refine dq rfl (V_pick_f rfl (not_t (by rw [hI.lens]; simp)) rfl) ?_
           refine dq rfl (V_move rfl) ?_
           refine dy rfl rfl (not_t (decide_eq_true (h160.2.trans hI2.ll))) (V_move rfl) ?_
           refine dy rfl rfl (not_t (decide_eq_true (h160.2.trans hI2.ll))) (V_move rfl) ?_
           refine dy rfl rfl (not_t (decide_eq_true (h160.2.trans hI2.ll))) vnil ?_
           refine dy rfl rfl (not_t (decide_eq_true (h160.2.trans hI2.ll))) (vfa0 1 1) ?_
           refine dy rfl rfl (not_t (decide_eq_true (h160.2.trans hI2.ll))) vld ?_
           refine dy rfl rfl (not_t (decide_eq_true (h160.2.trans hI2.ll))) vlenS ?_
           refine WD.l ?_
           refine dcm rfl rfl (fun w hp => len22_calls b23 E jj gg w (HP.here hp cov)) ?_ (hg := gy rfl (not_t (decide_eq_true (h160.2.trans hI2.ll))))
           refine dy rfl rfl (not_t (decide_eq_true (h160.2.trans hI2.ll))) (v2 V_neq) ?_
           refine dq rfl (V_pick_f rfl (not_t (decide_eq_true (h160.2.trans hI2.ll))) rfl) ?_
           refine WD.done ?_
           refine WQ.then ?_
           refine W.cond_false rfl (by simp [hl3]) ?_
           refine W.skip ?_
           refine WQ.block_normal ?_
           refine WQ.then ?_
           refine W.region ?_
           refine omv ?_
           first | refine ov vaddN ?_ | refine ov vadd ?_
           refine oas ?_
           refine WL.nil ?_
           exact ag (i + 1, E, RR, jj, gg, jj2, gg2) [10, 12, 14, 0, 1, 4, 5, 6, 7, 8, 9, 40] (by (try dsimp only); exact ⟨by omega, hI2⟩) (by (try dsimp only); omega) rfl cov
         · refine W.seq ?_
           refine W.region ?_
           refine ov (v2 V_eql) ?_
           refine oas ?_
           refine nq ?_
           refine W.cond_dec rfl (fun g5 => ?_) (fun g5 => ?_)
           · refine W.skip ?_
             refine WQ.then ?_
             refine W.cond_true rfl (decide_eq_true g5) ?_
             refine dr (.q 0 (.q 1 (.q 2 (.q 4 (.q 5 (.q 6 (.l 3 (.l 7 (.q 8 (.q 9 (.done))))))))))) [(b15, _)] ?_
             refine dq rfl (V_move rfl) ?_
             refine dq rfl (vfa0 2 1) ?_
             refine dq rfl vld ?_
             refine dq rfl (V_move rfl) ?_
             refine dq rfl (vfa0 2 1) ?_
             refine dq rfl vld ?_
             refine WD.l ?_
             refine dcgP _ rfl rfl (fun w hp => append22_calls b23 D hI.ok j ga hI.gok hI.len o.A o.n o.cap o.b ho.by_ ho.cap.1 hob.symm w (HP.here hp cov) (fun w1 M h1 => Sr.pastP hp h1 (hs := by exact ho.s.old0))) (fun r121 h121 => ?_)
             simp only [List.cons_append, List.nil_append, List.append_nil, List.append_assoc]
             refine WD.back (gRL 5 31 r121) ?_
             simp only [List.cons_append, List.nil_append, List.append_nil, List.append_assoc]
             refine WD.l ?_
             refine dcgP _ rfl rfl (fun w hp => rappend22_calls b28 D R hI.ok hI.rl j2 gb hI.gok2 (by rw [hI.lens]; exact hI.len) o.A o.n o.cap o.b ho.by_ ho.cap.1 hob.symm w (HP.here hp cov) (fun w1 M h1 => Sr.pastP hp h1 (hs := by exact ho.s.old0))) (fun r125 h125 => ?_)
             simp only [List.cons_append, List.nil_append, List.append_nil, List.append_assoc]
             refine WD.back (gRL 5 31 r125.2) ?_
             simp only [List.cons_append, List.nil_append, List.append_nil, List.append_assoc]
             refine dq rfl (v2 V_eql) ?_
             refine dq rfl (V_assign rfl) ?_
             refine WD.done ?_
             refine WQ.block_normal ?_
             refine WQ.then ?_
             refine W.seq ?_
             have hI2 := hI.ap ho.by_ h121 h125
             have hl2 := hI.lens
             clear h121 h125
             obtain ⟨RR, gg2⟩ := r125
             dsimp only at hI2 ⊢
             generalize apD D ga.rs.length o.b = E at hI2 ⊢
             obtain ⟨gg, hx⟩ : ∃ x, x = r121 := ⟨_, rfl⟩
             subst hx
             obtain ⟨jj, hx⟩ : ∃ x, x = j := ⟨_, rfl⟩
             subst hx
             obtain ⟨jj2, hx⟩ : ∃ x, x = j2 := ⟨_, rfl⟩
             subst hx
             refine dr (.q 0 (.q 2 (.q 3 (.q 4 (.q 5 (.l 1 (.l 6 (.q 7 (.done))))))))) [(jj2, _)] ?_
             refine dq rfl (V_move rfl) ?_
             refine dq rfl (V_move rfl) ?_
             refine dq rfl vnil ?_
             refine dq rfl (vfa0 1 1) ?_
             refine dq rfl vld ?_
             refine WD.l ?_
             refine dcgP _ rfl rfl (fun w hp => alll22_calls b23 E jj gg hI2.gok (by have := hI2.len; have := hI2.ok.n64; omega) (GR.le59 hI2.gok hI2.le) w (HP.here hp cov)) (fun r160 h160 => ?_)
             simp only [List.cons_append, List.nil_append, List.append_nil, List.append_assoc]
             refine WD.back (gRL 5 31 gg) ?_
             simp only [List.cons_append, List.nil_append, List.append_nil, List.append_assoc]
             refine WD.back (gRL 5 31 r160) ?_
             simp only [List.cons_append, List.nil_append, List.append_nil, List.append_assoc]
             refine WD.l ?_
             refine dcp rfl rfl (fun w hp => sameRows_calls _ _ _ _ _ _ _ _ w (GR.rows hp h160.1 (by have h1 : r160.rs.length = gg.rs.length := (by rw [← GR.ll_len, ← GR.ll_len, h160.2]); have := hI2.len; have := hI2.ok.n64; omega)) (GR.rows hp hI2.gok2 (by rw [hI2.lens]; have := hI2.len; have := hI2.ok.n64; omega))) ?_
             refine dq rfl (V_assign rfl) ?_
             refine WD.done ?_
             refine WQ.then ?_
             refine W.seq ?_
             have hl3 := hI2.lens
             refine dr (.q 0 (.q 1 (.q 2 (.q 3 (.q 4 (.q 5 (.q 6 (.q 7 (.q 9 (.q 10 (.q 11 (.q 12 (.q 13 (.l 8 (.q 14 (.q 15 (.done))))))))))))))))) [(jj2, _)] ?_
             refine dq rfl (V_move rfl) ?_
             refine dq rfl vnot ?_
             refine dq rfl (V_move rfl) ?_
             refine dy rfl rfl (not_t (by rw [hI.lens]; simp)) (V_move rfl) ?_
             refine dy rfl rfl (not_t (by rw [hI.lens]; simp)) vnot ?_
             refine dq rfl (V_pick_f rfl (not_t (by rw [hI.lens]; simp)) rfl) ?_
             refine dq rfl (V_move rfl) ?_
             refine dy rfl rfl (not_t (decide_eq_true (h160.2.trans hI2.ll))) (V_move rfl) ?_
             refine dy rfl rfl (not_t (decide_eq_true (h160.2.trans hI2.ll))) (V_move rfl) ?_
             refine dy rfl rfl (not_t (decide_eq_true (h160.2.trans hI2.ll))) vnil ?_
             refine dy rfl rfl (not_t (decide_eq_true (h160.2.trans hI2.ll))) (vfa0 1 1) ?_
             refine dy rfl rfl (not_t (decide_eq_true (h160.2.trans hI2.ll))) vld ?_
             refine dy rfl rfl (not_t (decide_eq_true (h160.2.trans hI2.ll))) vlenS ?_
             refine WD.l ?_
             refine dcm rfl rfl (fun w hp => len22_calls b23 E jj gg w (HP.here hp cov)) ?_ (hg := gy rfl (not_t (decide_eq_true (h160.2.trans hI2.ll))))
             refine dy rfl rfl (not_t (decide_eq_true (h160.2.trans hI2.ll))) (v2 V_neq) ?_
             refine dq rfl (V_pick_f rfl (not_t (decide_eq_true (h160.2.trans hI2.ll))) rfl) ?_
             refine WD.done ?_
             refine WQ.then ?_
             refine W.cond_false rfl (by simp [hl3]) ?_
             refine W.skip ?_
             refine WQ.block_normal ?_
             refine WQ.then ?_
             refine W.region ?_
             refine omv ?_
             first | refine ov vaddN ?_ | refine ov vadd ?_
             refine oas ?_
             refine WL.nil ?_
             exact ag (i + 1, E, RR, jj, gg, jj2, gg2) [10, 12, 14, 0, 1, 4, 5, 6, 7, 8, 9, 40] (by (try dsimp only); exact ⟨by omega, hI2⟩) (by (try dsimp only); omega) rfl cov
           · refine W.region ?_
             refine ov (v2 V_eql) ?_
             refine oas ?_
             refine nq ?_
             refine W.cond_dec rfl (fun g6 => ?_) (fun g6 => ?_)
             · refine dr (.q 0 (.q 1 (.q 2 (.q 4 (.q 5 (.q 6 (.l 3 (.l 7 (.q 8 (.q 9 (.done))))))))))) [(b15, _)] ?_
               refine dq rfl (V_move rfl) ?_
               refine dq rfl (vfa0 2 1) ?_
               refine dq rfl vld ?_
               refine dq rfl (V_move rfl) ?_
               refine dq rfl (vfa0 2 1) ?_
               refine dq rfl vld ?_
               refine WD.l ?_
               refine dcgP _ rfl rfl (fun w hp => append22_calls b23 D hI.ok j ga hI.gok hI.len o.A o.n o.cap o.b ho.by_ ho.cap.1 hob.symm w (HP.here hp cov) (fun w1 M h1 => Sr.pastP hp h1 (hs := by exact ho.s.old0))) (fun r121 h121 => ?_)
               simp only [List.cons_append, List.nil_append, List.append_nil, List.append_assoc]
               refine WD.back (gRL 5 31 r121) ?_
               simp only [List.cons_append, List.nil_append, List.append_nil, List.append_assoc]
               refine WD.l ?_
               refine dcgP _ rfl rfl (fun w hp => rappend22_calls b28 D R hI.ok hI.rl j2 gb hI.gok2 (by rw [hI.lens]; exact hI.len) o.A o.n o.cap o.b ho.by_ ho.cap.1 hob.symm w (HP.here hp cov) (fun w1 M h1 => Sr.pastP hp h1 (hs := by exact ho.s.old0))) (fun r125 h125 => ?_)
               simp only [List.cons_append, List.nil_append, List.append_nil, List.append_assoc]
               refine WD.back (gRL 5 31 r125.2) ?_
               simp only [List.cons_append, List.nil_append, List.append_nil, List.append_assoc]
               refine dq rfl (v2 V_eql) ?_
               refine dq rfl (V_assign rfl) ?_
               refine WD.done ?_
               refine WQ.block_normal ?_
               refine WQ.then ?_
               refine W.seq ?_
               have hI2 := hI.ap ho.by_ h121 h125
               have hl2 := hI.lens
               clear h121 h125
               obtain ⟨RR, gg2⟩ := r125
               dsimp only at hI2 ⊢
               generalize apD D ga.rs.length o.b = E at hI2 ⊢
               obtain ⟨gg, hx⟩ : ∃ x, x = r121 := ⟨_, rfl⟩
               subst hx
               obtain ⟨jj, hx⟩ : ∃ x, x = j := ⟨_, rfl⟩
               subst hx
               obtain ⟨jj2, hx⟩ : ∃ x, x = j2 := ⟨_, rfl⟩
               subst hx
               refine dr (.q 0 (.q 2 (.q 3 (.q 4 (.q 5 (.l 1 (.l 6 (.q 7 (.done))))))))) [(jj2, _)] ?_
               refine dq rfl (V_move rfl) ?_
               refine dq rfl (V_move rfl) ?_
               refine dq rfl vnil ?_
               refine dq rfl (vfa0 1 1) ?_
               refine dq rfl vld ?_
               refine WD.l ?_
               refine dcgP _ rfl rfl (fun w hp => alll22_calls b23 E jj gg hI2.gok (by have := hI2.len; have := hI2.ok.n64; omega) (GR.le59 hI2.gok hI2.le) w (HP.here hp cov)) (fun r160 h160 => ?_)
               simp only [List.cons_append, List.nil_append, List.append_nil, List.append_assoc]
               refine WD.back (gRL 5 31 gg) ?_
               simp only [List.cons_append, List.nil_append, List.append_nil, List.append_assoc]
               refine WD.back (gRL 5 31 r160) ?_
               simp only [List.cons_append, List.nil_append, List.append_nil, List.append_assoc]
               refine WD.l ?_
               refine dcp rfl rfl (fun w hp => sameRows_calls _ _ _ _ _ _ _ _ w (GR.rows hp h160.1 (by have h1 : r160.rs.length = gg.rs.length := (by rw [← GR.ll_len, ← GR.ll_len, h160.2]); have := hI2.len; have := hI2.ok.n64; omega)) (GR.rows hp hI2.gok2 (by rw [hI2.lens]; have := hI2.len; have := hI2.ok.n64; omega))) ?_
               refine dq rfl (V_assign rfl) ?_
               refine WD.done ?_
               refine WQ.then ?_
               refine W.seq ?_
               have hl3 := hI2.lens
               refine dr (.q 0 (.q 1 (.q 2 (.q 3 (.q 4 (.q 5 (.q 6 (.q 7 (.q 9 (.q 10 (.q 11 (.q 12 (.q 13 (.l 8 (.q 14 (.q 15 (.done))))))))))))))))) [(jj2, _)] ?_
               refine dq rfl (V_move rfl) ?_
               refine dq rfl vnot ?_
               refine dq rfl (V_move rfl) ?_
               refine dy rfl rfl (not_t (by rw [hI.lens]; simp)) (V_move rfl) ?_
               refine dy rfl rfl (not_t (by rw [hI.lens]; simp)) vnot ?_
               refine dq rfl (V_pick_f rfl (not_t (by rw [hI.lens]; simp)) rfl) ?_
               refine dq rfl (V_move rfl) ?_
               refine dy rfl rfl (not_t (decide_eq_true (h160.2.trans hI2.ll))) (V_move rfl) ?_
               refine dy rfl rfl (not_t (decide_eq_true (h160.2.trans hI2.ll))) (V_move rfl) ?_
               refine dy rfl rfl (not_t (decide_eq_true (h160.2.trans hI2.ll))) vnil ?_
               refine dy rfl rfl (not_t (decide_eq_true (h160.2.trans hI2.ll))) (vfa0 1 1) ?_
               refine dy rfl rfl (not_t (decide_eq_true (h160.2.trans hI2.ll))) vld ?_
               refine dy rfl rfl (not_t (decide_eq_true (h160.2.trans hI2.ll))) vlenS ?_
               refine WD.l ?_
               refine dcm rfl rfl (fun w hp => len22_calls b23 E jj gg w (HP.here hp cov)) ?_ (hg := gy rfl (not_t (decide_eq_true (h160.2.trans hI2.ll))))
               refine dy rfl rfl (not_t (decide_eq_true (h160.2.trans hI2.ll))) (v2 V_neq) ?_
               refine dq rfl (V_pick_f rfl (not_t (decide_eq_true (h160.2.trans hI2.ll))) rfl) ?_
               refine WD.done ?_
               refine WQ.then ?_
               refine W.cond_false rfl (by simp [hl3]) ?_
               refine W.skip ?_
               refine WQ.block_normal ?_
               refine WQ.then ?_
               refine W.region ?_
               refine omv ?_
               first | refine ov vaddN ?_ | refine ov vadd ?_
               refine oas ?_
               refine WL.nil ?_
               exact ag (i + 1, E, RR, jj, gg, jj2, gg2) [10, 12, 14, 0, 1, 4, 5, 6, 7, 8, 9, 40] (by (try dsimp only); exact ⟨by omega, hI2⟩) (by (try dsimp only); omega) rfl cov
             · refine W.seq ?_
               refine W.region ?_
               refine ov (v2 V_eql) ?_
               refine oas ?_
               refine nq ?_
               refine W.cond_dec rfl (fun g7 => ?_) (fun g7 => ?_)
               · refine W.seq ?_
                 refine W.region ?_
                 refine omv ?_
                 refine ov (vfa0 1 1) ?_
                 refine ov vld ?_
                 refine cms rfl (fun w hp => fuse21_calls b23 D hI.ok o.i ho.i w (HP.here hp cov)) ?_
                 refine nq ?_
                 refine W.region ?_
                 refine omv ?_
                 refine ov (vfa0 1 1) ?_
                 refine ov vld ?_
                 refine cg rfl (fun w hp => rfuse21_calls b28 D R hI.ok hI.rl o.i ho.i w (HP.here hp cov)) (fun b136 h136 => ?_)
                 refine WL.nil ?_
                 refine WQ.block_normal ?_
                 refine WQ.then ?_
                 refine W.seq ?_
                 have hI2 := hI.step (fuD_ok hI.ok ho.i.2) h136 rfl
                 have hn3 : (fuD D o.i).n = D.n := rfl
                 rw [← hn3]
                 generalize fuD D o.i = E at hI2 ⊢
                 obtain ⟨RR, hx⟩ : ∃ x, x = b136 := ⟨_, rfl⟩
                 subst hx
                 obtain ⟨gg, hx⟩ : ∃ x, x = ga := ⟨_, rfl⟩
                 subst hx
                 obtain ⟨gg2, hx⟩ : ∃ x, x = gb := ⟨_, rfl⟩
                 subst hx
                 obtain ⟨jj, hx⟩ : ∃ x, x = j := ⟨_, rfl⟩
                 subst hx
                 obtain ⟨jj2, hx⟩ : ∃ x, x = j2 := ⟨_, rfl⟩
                 subst hx
                 refine dr (.q 0 (.q 2 (.q 3 (.q 4 (.q 5 (.l 1 (.l 6 (.q 7 (.done))))))))) [(jj2, _)] ?_
                 refine dq rfl (V_move rfl) ?_
                 refine dq rfl (V_move rfl) ?_
                 refine dq rfl vnil ?_
                 refine dq rfl (vfa0 1 1) ?_
                 refine dq rfl vld ?_
                 refine WD.l ?_
                 refine dcgP _ rfl rfl (fun w hp => alll22_calls b23 E jj gg hI2.gok (by have := hI2.len; have := hI2.ok.n64; omega) (GR.le59 hI2.gok hI2.le) w (HP.here hp cov)) (fun r160 h160 => ?_)
                 simp only [List.cons_append, List.nil_append, List.append_nil, List.append_assoc]
                 refine WD.back (gRL 5 31 gg) ?_
                 simp only [List.cons_append, List.nil_append, List.append_nil, List.append_assoc]
                 refine WD.back (gRL 5 31 r160) ?_
                 simp only [List.cons_append, List.nil_append, List.append_nil, List.append_assoc]
                 refine WD.l ?_
                 refine dcp rfl rfl (fun w hp => sameRows_calls _ _ _ _ _ _ _ _ w (GR.rows hp h160.1 (by have h1 : r160.rs.length = gg.rs.length := (by rw [← GR.ll_len, ← GR.ll_len, h160.2]); have := hI2.len; have := hI2.ok.n64; omega)) (GR.rows hp hI2.gok2 (by rw [hI2.lens]; have := hI2.len; have := hI2.ok.n64; omega))) ?_
                 refine dq rfl (V_assign rfl) ?_
                 refine WD.done ?_
                 refine WQ.then ?_
                 refine W.seq ?_
                 have hl3 := hI2.lens
                 refine dr (.q 0 (.q 1 (.q 2 (.q 3 (.q 4 (.q 5 (.q 6 (.q 7 (.q 9 (.q 10 (.q 11 (.q 12 (.q 13 (.l 8 (.q 14 (.q 15 (.done))))))))))))))))) [(jj2, _)] ?_
                 refine dq rfl (V_move rfl) ?_
                 refine dq rfl vnot ?_
                 refine dq rfl (V_move rfl) ?_
                 refine dy rfl rfl rfl (V_move rfl) ?_
                 refine dy rfl rfl rfl vnot ?_
                 refine dq rfl (V_pick_f rfl rfl rfl) ?_
                 refine dq rfl (V_move rfl) ?_
                 refine dy rfl rfl (not_t (decide_eq_true (h160.2.trans hI2.ll))) (V_move rfl) ?_
                 refine dy rfl rfl (not_t (decide_eq_true (h160.2.trans hI2.ll))) (V_move rfl) ?_
                 refine dy rfl rfl (not_t (decide_eq_true (h160.2.trans hI2.ll))) vnil ?_
                 refine dy rfl rfl (not_t (decide_eq_true (h160.2.trans hI2.ll))) (vfa0 1 1) ?_
                 refine dy rfl rfl (not_t (decide_eq_true (h160.2.trans hI2.ll))) vld ?_
                 refine dy rfl rfl (not_t (decide_eq_true (h160.2.trans hI2.ll))) vlenS ?_
                 refine WD.l ?_
                 refine dcm rfl rfl (fun w hp => len22_calls b23 E jj gg w (HP.here hp cov)) ?_ (hg := gy rfl (not_t (decide_eq_true (h160.2.trans hI2.ll))))
                 refine dy rfl rfl (not_t (decide_eq_true (h160.2.trans hI2.ll))) (v2 V_neq) ?_
                 refine dq rfl (V_pick_f rfl (not_t (decide_eq_true (h160.2.trans hI2.ll))) rfl) ?_
                 refine WD.done ?_
                 refine WQ.then ?_
                 refine W.cond_false rfl (by simp [hl3]) ?_
                 refine W.skip ?_
                 refine WQ.block_normal ?_
                 refine WQ.then ?_
                 refine W.region ?_
                 refine omv ?_
                 first | refine ov vaddN ?_ | refine ov vadd ?_
                 refine oas ?_
                 refine WL.nil ?_
                 exact ag (i + 1, E, RR, jj, gg, jj2, gg2) [10, 12, 14, 0, 1, 4, 5, 6, 7, 8, 9, 40] (by (try dsimp only); exact ⟨by omega, hI2⟩) (by (try dsimp only); omega) rfl cov
               · refine W.seq ?_
                 refine W.region ?_
                 refine ov (v2 V_eql) ?_
                 refine oas ?_
                 refine nq ?_
                 refine W.cond_dec rfl (fun g8 => ?_) (fun g8 => ?_)
                 · refine W.seq ?_
                   refine W.region ?_
                   refine omv ?_
                   refine ov (vfa0 3 1) ?_
                   refine ov vld ?_
                   refine cms rfl (fun w hp => crash21_calls b23 D hI.ok o.kept ho.kept w (HP.here hp cov)) ?_
                   refine nx ?_
                   refine omv ?_
                   refine ov (vfa0 3 1) ?_
                   refine ov vld ?_
                   refine cg rfl (fun w hp => rcrash21_calls b28 D R hI.ok hI.rl o.kept ho.kept w (HP.here hp cov)) (fun b146 h146 => ?_)
                   refine nx ?_
                   refine omv ?_
                   refine cgP _ rfl (fun w hp => open22_calls b23 (crD D o.kept) (crD_ok hI.ok) w (HP.here hp cov)) (fun r149 h149 => ?_)
                   simp only [List.cons_append, List.nil_append, List.append_nil, List.append_assoc]
                   refine WL.back (gRL 5 31 r149.2) ?_
                   simp only [List.cons_append, List.nil_append, List.append_nil, List.append_assoc]
                   refine omv ?_
                   refine ov vex ?_
                   refine ov vex ?_
                   refine oas ?_
                   refine nx ?_
                   refine omv ?_
                   refine cgP _ rfl (fun w hp => ropen22_calls b28 (crD D o.kept) b146 (crD_ok hI.ok) h146 w (HP.here hp cov)) (fun r154 h154 => ?_)
                   simp only [List.cons_append, List.nil_append, List.append_nil, List.append_assoc]
                   refine WL.back (gRL 5 31 r154.2) ?_
                   simp only [List.cons_append, List.nil_append, List.append_nil, List.append_assoc]
                   refine omv ?_
                   refine ov vex ?_
                   refine ov vex ?_
                   refine oas ?_
                   refine nx ?_
                   refine omv ?_
                   refine ov (V_eqlP (by kernel_rfl) rfl rfl) ?_
                   refine nq ?_
                   refine W.cond_false rfl rfl ?_
                   refine W.skip ?_
                   refine WQ.block_normal ?_
                   refine WQ.then ?_
                   refine W.seq ?_
                   have hI2 := JI.new (crD_ok hI.ok (kept := o.kept)) h146 h149 h154
                   obtain ⟨jj, gg⟩ := r149
                   obtain ⟨jj2, gg2⟩ := r154
                   dsimp only at hI2 ⊢
                   generalize crD D o.kept = E at hI2 ⊢
                   obtain ⟨RR, hx⟩ : ∃ x, x = b146 := ⟨_, rfl⟩
                   subst hx
                   refine dr (.q 0 (.q 2 (.q 3 (.q 4 (.q 5 (.l 1 (.l 6 (.q 7 (.done))))))))) [(jj2, _)] ?_
                   refine dq rfl (V_move rfl) ?_
                   refine dq rfl (V_move rfl) ?_
                   refine dq rfl vnil ?_
                   refine dq rfl (vfa 1 1) ?_
                   refine dq rfl vld ?_
                   refine WD.l ?_
                   refine dcgP _ rfl rfl (fun w hp => alll22_calls b23 E jj gg hI2.gok (by have := hI2.len; have := hI2.ok.n64; omega) (GR.le59 hI2.gok hI2.le) w (HP.here hp cov)) (fun r160 h160 => ?_)
                   simp only [List.cons_append, List.nil_append, List.append_nil, List.append_assoc]
                   refine WD.back (gRL 5 31 gg) ?_
                   simp only [List.cons_append, List.nil_append, List.append_nil, List.append_assoc]
                   refine WD.back (gRL 5 31 r160) ?_
                   simp only [List.cons_append, List.nil_append, List.append_nil, List.append_assoc]
                   refine WD.l ?_
                   refine dcp rfl rfl (fun w hp => sameRows_calls _ _ _ _ _ _ _ _ w (GR.rows hp h160.1 (by have h1 : r160.rs.length = gg.rs.length := (by rw [← GR.ll_len, ← GR.ll_len, h160.2]); have := hI2.len; have := hI2.ok.n64; omega)) (GR.rows hp hI2.gok2 (by rw [hI2.lens]; have := hI2.len; have := hI2.ok.n64; omega))) ?_
                   refine dq rfl (V_assign rfl) ?_
                   refine WD.done ?_
                   refine WQ.then ?_
                   refine W.seq ?_
                   have hl3 := hI2.lens
                   refine dr (.q 0 (.q 1 (.q 2 (.q 3 (.q 4 (.q 5 (.q 6 (.q 7 (.q 9 (.q 10 (.q 11 (.q 12 (.q 13 (.l 8 (.q 14 (.q 15 (.done))))))))))))))))) [(jj2, _)] ?_
                   refine dq rfl (V_move rfl) ?_
                   refine dq rfl vnot ?_
                   refine dq rfl (V_move rfl) ?_
                   refine dy rfl rfl rfl (V_move rfl) ?_
                   refine dy rfl rfl rfl vnot ?_
                   refine dq rfl (V_pick_f rfl rfl rfl) ?_
                   refine dq rfl (V_move rfl) ?_
                   refine dy rfl rfl (not_t (decide_eq_true (h160.2.trans hI2.ll))) (V_move rfl) ?_
                   refine dy rfl rfl (not_t (decide_eq_true (h160.2.trans hI2.ll))) (V_move rfl) ?_
                   refine dy rfl rfl (not_t (decide_eq_true (h160.2.trans hI2.ll))) vnil ?_
                   refine dy rfl rfl (not_t (decide_eq_true (h160.2.trans hI2.ll))) (vfa 1 1) ?_
                   refine dy rfl rfl (not_t (decide_eq_true (h160.2.trans hI2.ll))) vld ?_
                   refine dy rfl rfl (not_t (decide_eq_true (h160.2.trans hI2.ll))) vlenS ?_
                   refine WD.l ?_
                   refine dcm rfl rfl (fun w hp => len22_calls b23 E jj gg w (HP.here hp cov)) ?_ (hg := gy rfl (not_t (decide_eq_true (h160.2.trans hI2.ll))))
                   refine dy rfl rfl (not_t (decide_eq_true (h160.2.trans hI2.ll))) (v2 V_neq) ?_
                   refine dq rfl (V_pick_f rfl (not_t (decide_eq_true (h160.2.trans hI2.ll))) rfl) ?_
                   refine WD.done ?_
                   refine WQ.then ?_
                   refine W.cond_false rfl (by simp [hl3]) ?_
                   refine W.skip ?_
                   refine WQ.block_normal ?_
                   refine WQ.then ?_
                   refine W.region ?_
                   refine omv ?_
                   first | refine ov vaddN ?_ | refine ov vadd ?_
                   refine oas ?_
                   refine WL.nil ?_
                   exact ag (i + 1, E, RR, jj, gg, jj2, gg2) [10, 12, 14, 0, 1, 4, 5, 6, 7, 8, 9, 40] (by (try dsimp only); exact ⟨by omega, hI2⟩) (by (try dsimp only); omega) rfl cov
                 · refine W.seq ?_
                   refine W.region ?_
                   refine oal [(64, List.replicate 64 (.int .u8 0))] (fun b17 => ?_)
                   refine nq ?_
                   refine W.seq ?_
                   refine sr ?_
                   refine oas ?_
                   refine nq ?_
                   refine W.block ?_
                   -- LOOP 1
                   refine W.pick (S' := [(18, _), (0, _), (1, _), (4, _), (5, _), (6, _), (7, _), (8, _), (9, _), (10, _), (12, _), (14, _), (15, _), (16, _), (17, _), (40, _), (63, _), (77, _), (84, _), (114, _), (127, _), (137, _)]) [18, 0, 1, 4, 5, 6, 7, 8, 9, 10, 12, 14, 15, 16, 17, 40, 63, 77, 84, 114, 127, 137] rfl ?_
                   refine W.loopG (σ := Nat) (fun k => k ≤ o.n ∧ k ≤ 64) (fun k => [(18, .int .i64 (k : Nat))]) (fun k => [(b17, .cells [(64, iv .u8 (pad o.b k))] 58)]) [(b15, _), (b23.d, _), (b23.s, _), (b23.m, _), (j, _), (b28.d, _), (b28.s, _), (b28.x, _), (b28.i, _), (j2, _)] (fun k => gRL 5 31 ga ++ gRL 5 31 gb) (fun k => o.n - k) 0 rfl cov ⟨Nat.zero_le _, Nat.zero_le _⟩ ?_
                   rintro k ⟨hk1, hk2⟩; have hsec : Sec (pad o.b k) := pad_sec ho.by_ (by omega) hk2; have hsl := hsec.1
                   refine W.seq ?_
                   refine sr ?_
                   refine omv ?_
                   refine ov (vfa0 2 1) ?_
                   refine ov vld ?_
                   refine ov vlenS ?_
                   refine ov (v2 V_lss) ?_
                   refine omv ?_
                   refine WL.splitD rfl (fun g9 => ?_) (fun g9 => ?_)
                   · refine oy rfl (decide_eq_true g9) ?_
                     refine omv ?_
                     refine oy rfl (decide_eq_true g9) ?_
                     refine ov (v2 V_lss) ?_
                     refine ov (V_pick_td rfl g9 rfl) ?_
                     refine nq ?_
                     refine W.cond_dec rfl (fun g10 => ?_) (fun g10 => ?_)
                     · refine W.skip ?_
                       refine WQ.then ?_
                       refine W.seq ?_
                       refine W.block ?_
                       obtain ⟨bA, oA, hoA⟩ := hos.hasN (by omega)
                       have hos2 : SrW w 1 (some ⟨bA, oA, none⟩) o.n (iv .u8 o.b) := by rw [← hoA]; exact ho.s
                       refine W.region ?_
                       refine omv ?_
                       refine ov (vfa0 2 1) ?_
                       refine ov vld ?_
                       refine omv ?_
                       refine ov (viO (b := bA) (o := oA) 1 (hx := congrArg (fun a => some (Value.slice a o.n o.cap)) hoA)) ?_
                       refine ov (vldS k hos2) ?_
                       first | refine ov (viA0 64) ?_ | refine ov (viA0Z 64) ?_
                       first | refine ostI ?_ | refine ost ?_
                       refine WL.nil ?_
                       refine WQ.block_normal ?_
                       refine WQ.then ?_
                       refine W.region ?_
                       refine omv ?_
                       first | refine ov vaddN ?_ | refine ov vadd ?_
                       refine oas ?_
                       refine WL.nil ?_
                       rw [pad_next (by omega) (by omega)]
                       exact ag (k + 1) [18, 0, 1, 4, 5, 6, 7, 8, 9, 10, 12, 14, 15, 16, 17, 40, 63, 77, 84, 114, 127, 137] (by (try dsimp only); exact ⟨by omega, by omega⟩) (by (try dsimp only); omega) rfl cov
                     · refine W.exit ?_
                       refine WQ.then_exit ?_
                       refine WQ.then_exit ?_
                       refine WQ.block_hit ?_
                       refine WQ.then ?_
                       refine dr (.q 0 (.q 1 (.q 2 (.q 3 (.q 5 (.q 6 (.q 7 (.q 8 (.l 4 (.l 9 (.q 10 (.q 11 (.done))))))))))))) [(b17, _), (b15, _)] ?_
                       refine dq rfl (V_move rfl) ?_
                       refine dq rfl (vfa0 1 1) ?_
                       refine dq rfl vld ?_
                       refine dq rfl (vlda 64) ?_
                       refine dq rfl (V_move rfl) ?_
                       refine dq rfl (vfa0 1 1) ?_
                       refine dq rfl vld ?_
                       refine dq rfl (vlda 64) ?_
                       refine WD.l ?_
                       refine dcms rfl rfl (fun w hp => write21_calls b23 D hI.ok o.i (pad o.b k) hsec w (HP.here hp cov)) ?_
                       refine WD.l ?_
                       refine dcg rfl rfl (fun w hp => rwrite21_calls b28 D R hI.ok hI.rl o.i (pad o.b k) hsec w (HP.here hp cov)) (fun b112 h112 => ?_)
                       refine dq rfl (v2 V_eql) ?_
                       refine dq rfl (V_assign rfl) ?_
                       refine WD.done ?_
                       refine WQ.block_normal ?_
                       refine WQ.then ?_
                       refine W.seq ?_
                       have hI2 := hI.step (wrD_ok hI.ok hsec) h112 wrD_n
                       rw [← wrD_n (D := D) (i := o.i) (s := pad o.b k)]
                       generalize wrD D o.i (pad o.b k) = E at hI2 ⊢
                       obtain ⟨RR, hx⟩ : ∃ x, x = b112 := ⟨_, rfl⟩
                       subst hx
                       obtain ⟨gg, hx⟩ : ∃ x, x = ga := ⟨_, rfl⟩
                       subst hx
                       obtain ⟨gg2, hx⟩ : ∃ x, x = gb := ⟨_, rfl⟩
                       subst hx
                       obtain ⟨jj, hx⟩ : ∃ x, x = j := ⟨_, rfl⟩
                       subst hx
                       obtain ⟨jj2, hx⟩ : ∃ x, x = j2 := ⟨_, rfl⟩
                       subst hx
                       refine dr (.q 0 (.q 2 (.q 3 (.q 4 (.q 5 (.l 1 (.l 6 (.q 7 (.done))))))))) [(jj2, _)] ?_
                       refine dq rfl (V_move rfl) ?_
                       refine dq rfl (V_move rfl) ?_
                       refine dq rfl vnil ?_
                       refine dq rfl (vfa0 1 1) ?_
                       refine dq rfl vld ?_
                       refine WD.l ?_
                       refine dcgP _ rfl rfl (fun w hp => alll22_calls b23 E jj gg hI2.gok (by have := hI2.len; have := hI2.ok.n64; omega) (GR.le59 hI2.gok hI2.le) w (HP.here hp cov)) (fun r160 h160 => ?_)
                       simp only [List.cons_append, List.nil_append, List.append_nil, List.append_assoc]
                       refine WD.back (gRL 5 31 gg) ?_
                       simp only [List.cons_append, List.nil_append, List.append_nil, List.append_assoc]
                       refine WD.back (gRL 5 31 r160) ?_
                       simp only [List.cons_append, List.nil_append, List.append_nil, List.append_assoc]
                       refine WD.l ?_
                       refine dcp rfl rfl (fun w hp => sameRows_calls _ _ _ _ _ _ _ _ w (GR.rows hp h160.1 (by have h1 : r160.rs.length = gg.rs.length := (by rw [← GR.ll_len, ← GR.ll_len, h160.2]); have := hI2.len; have := hI2.ok.n64; omega)) (GR.rows hp hI2.gok2 (by rw [hI2.lens]; have := hI2.len; have := hI2.ok.n64; omega))) ?_
                       refine dq rfl (V_assign rfl) ?_
                       refine WD.done ?_
                       refine WQ.then ?_
                       refine W.seq ?_
                       have hl3 := hI2.lens
                       refine dr (.q 0 (.q 1 (.q 2 (.q 3 (.q 4 (.q 5 (.q 6 (.q 7 (.q 9 (.q 10 (.q 11 (.q 12 (.q 13 (.l 8 (.q 14 (.q 15 (.done))))))))))))))))) [(jj2, _)] ?_
                       refine dq rfl (V_move rfl) ?_
                       refine dq rfl vnot ?_
                       refine dq rfl (V_move rfl) ?_
                       refine dy rfl rfl (not_t (by simp)) (V_move rfl) ?_
                       refine dy rfl rfl (not_t (by simp)) vnot ?_
                       refine dq rfl (V_pick_f rfl (not_t (by simp)) rfl) ?_
                       refine dq rfl (V_move rfl) ?_
                       refine dy rfl rfl (not_t (decide_eq_true (h160.2.trans hI2.ll))) (V_move rfl) ?_
                       refine dy rfl rfl (not_t (decide_eq_true (h160.2.trans hI2.ll))) (V_move rfl) ?_
                       refine dy rfl rfl (not_t (decide_eq_true (h160.2.trans hI2.ll))) vnil ?_
                       refine dy rfl rfl (not_t (decide_eq_true (h160.2.trans hI2.ll))) (vfa0 1 1) ?_
                       refine dy rfl rfl (not_t (decide_eq_true (h160.2.trans hI2.ll))) vld ?_
                       refine dy rfl rfl (not_t (decide_eq_true (h160.2.trans hI2.ll))) vlenS ?_
                       refine WD.l ?_
                       refine dcm rfl rfl (fun w hp => len22_calls b23 E jj gg w (HP.here hp cov)) ?_ (hg := gy rfl (not_t (decide_eq_true (h160.2.trans hI2.ll))))
                       refine dy rfl rfl (not_t (decide_eq_true (h160.2.trans hI2.ll))) (v2 V_neq) ?_
                       refine dq rfl (V_pick_f rfl (not_t (decide_eq_true (h160.2.trans hI2.ll))) rfl) ?_
                       refine WD.done ?_
                       refine WQ.then ?_
                       refine W.cond_false rfl (by simp [hl3]) ?_
                       refine W.skip ?_
                       refine WQ.block_normal ?_
                       refine WQ.then ?_
                       refine W.region ?_
                       refine omv ?_
                       first | refine ov vaddN ?_ | refine ov vadd ?_
                       refine oas ?_
                       refine WL.nil ?_
                       exact ag (i + 1, E, RR, jj, gg, jj2, gg2) [10, 12, 14, 0, 1, 4, 5, 6, 7, 8, 9, 40] (by (try dsimp only); exact ⟨by omega, hI2⟩) (by (try dsimp only); omega) rfl cov
                   · refine on rfl (decide_eq_false g9) ?_
                     refine on rfl (decide_eq_false g9) ?_
                     refine ov (V_pick_fd rfl g9 rfl) ?_
                     refine nq ?_
                     refine W.cond_false rfl rfl ?_
                     refine W.exit ?_
                     refine WQ.then_exit ?_
                     refine WQ.then_exit ?_
                     refine WQ.block_hit ?_
                     refine WQ.then ?_
                     refine dr (.q 0 (.q 1 (.q 2 (.q 3 (.q 5 (.q 6 (.q 7 (.q 8 (.l 4 (.l 9 (.q 10 (.q 11 (.done))))))))))))) [(b17, _), (b15, _)] ?_
                     refine dq rfl (V_move rfl) ?_
                     refine dq rfl (vfa0 1 1) ?_
                     refine dq rfl vld ?_
                     refine dq rfl (vlda 64) ?_
                     refine dq rfl (V_move rfl) ?_
                     refine dq rfl (vfa0 1 1) ?_
                     refine dq rfl vld ?_
                     refine dq rfl (vlda 64) ?_
                     refine WD.l ?_
                     refine dcms rfl rfl (fun w hp => write21_calls b23 D hI.ok o.i (pad o.b k) hsec w (HP.here hp cov)) ?_
                     refine WD.l ?_
                     refine dcg rfl rfl (fun w hp => rwrite21_calls b28 D R hI.ok hI.rl o.i (pad o.b k) hsec w (HP.here hp cov)) (fun b112 h112 => ?_)
                     refine dq rfl (v2 V_eql) ?_
                     refine dq rfl (V_assign rfl) ?_
                     refine WD.done ?_
                     refine WQ.block_normal ?_
                     refine WQ.then ?_
                     refine W.seq ?_
                     have hI2 := hI.step (wrD_ok hI.ok hsec) h112 wrD_n
                     rw [← wrD_n (D := D) (i := o.i) (s := pad o.b k)]
                     generalize wrD D o.i (pad o.b k) = E at hI2 ⊢
                     obtain ⟨RR, hx⟩ : ∃ x, x = b112 := ⟨_, rfl⟩
                     subst hx
                     obtain ⟨gg, hx⟩ : ∃ x, x = ga := ⟨_, rfl⟩
                     subst hx
                     obtain ⟨gg2, hx⟩ : ∃ x, x = gb := ⟨_, rfl⟩
                     subst hx
                     obtain ⟨jj, hx⟩ : ∃ x, x = j := ⟨_, rfl⟩
                     subst hx
                     obtain ⟨jj2, hx⟩ : ∃ x, x = j2 := ⟨_, rfl⟩
                     subst hx
                     refine dr (.q 0 (.q 2 (.q 3 (.q 4 (.q 5 (.l 1 (.l 6 (.q 7 (.done))))))))) [(jj2, _)] ?_
                     refine dq rfl (V_move rfl) ?_
                     refine dq rfl (V_move rfl) ?_
                     refine dq rfl vnil ?_
                     refine dq rfl (vfa0 1 1) ?_
                     refine dq rfl vld ?_
                     refine WD.l ?_
                     refine dcgP _ rfl rfl (fun w hp => alll22_calls b23 E jj gg hI2.gok (by have := hI2.len; have := hI2.ok.n64; omega) (GR.le59 hI2.gok hI2.le) w (HP.here hp cov)) (fun r160 h160 => ?_)
                     simp only [List.cons_append, List.nil_append, List.append_nil, List.append_assoc]
                     refine WD.back (gRL 5 31 gg) ?_
                     simp only [List.cons_append, List.nil_append, List.append_nil, List.append_assoc]
                     refine WD.back (gRL 5 31 r160) ?_
                     simp only [List.cons_append, List.nil_append, List.append_nil, List.append_assoc]
                     refine WD.l ?_
                     refine dcp rfl rfl (fun w hp => sameRows_calls _ _ _ _ _ _ _ _ w (GR.rows hp h160.1 (by have h1 : r160.rs.length = gg.rs.length := (by rw [← GR.ll_len, ← GR.ll_len, h160.2]); have := hI2.len; have := hI2.ok.n64; omega)) (GR.rows hp hI2.gok2 (by rw [hI2.lens]; have := hI2.len; have := hI2.ok.n64; omega))) ?_
                     refine dq rfl (V_assign rfl) ?_
                     refine WD.done ?_
                     refine WQ.then ?_
                     refine W.seq ?_
                     have hl3 := hI2.lens
                     refine dr (.q 0 (.q 1 (.q 2 (.q 3 (.q 4 (.q 5 (.q 6 (.q 7 (.q 9 (.q 10 (.q 11 (.q 12 (.q 13 (.l 8 (.q 14 (.q 15 (.done))))))))))))))))) [(jj2, _)] ?_
                     refine dq rfl (V_move rfl) ?_
                     refine dq rfl vnot ?_
                     refine dq rfl (V_move rfl) ?_
                     refine dy rfl rfl (not_t (by simp)) (V_move rfl) ?_
                     refine dy rfl rfl (not_t (by simp)) vnot ?_
                     refine dq rfl (V_pick_f rfl (not_t (by simp)) rfl) ?_
                     refine dq rfl (V_move rfl) ?_
                     refine dy rfl rfl (not_t (decide_eq_true (h160.2.trans hI2.ll))) (V_move rfl) ?_
                     refine dy rfl rfl (not_t (decide_eq_true (h160.2.trans hI2.ll))) (V_move rfl) ?_
                     refine dy rfl rfl (not_t (decide_eq_true (h160.2.trans hI2.ll))) vnil ?_
                     refine dy rfl rfl (not_t (decide_eq_true (h160.2.trans hI2.ll))) (vfa0 1 1) ?_
                     refine dy rfl rfl (not_t (decide_eq_true (h160.2.trans hI2.ll))) vld ?_
                     refine dy rfl rfl (not_t (decide_eq_true (h160.2.trans hI2.ll))) vlenS ?_
                     refine WD.l ?_
                     refine dcm rfl rfl (fun w hp => len22_calls b23 E jj gg w (HP.here hp cov)) ?_ (hg := gy rfl (not_t (decide_eq_true (h160.2.trans hI2.ll))))
                     refine dy rfl rfl (not_t (decide_eq_true (h160.2.trans hI2.ll))) (v2 V_neq) ?_
                     refine dq rfl (V_pick_f rfl (not_t (decide_eq_true (h160.2.trans hI2.ll))) rfl) ?_
                     refine WD.done ?_
                     refine WQ.then ?_
                     refine W.cond_false rfl (by simp [hl3]) ?_
                     refine W.skip ?_
                     refine WQ.block_normal ?_
                     refine WQ.then ?_
                     refine W.region ?_
                     refine omv ?_
                     first | refine ov vaddN ?_ | refine ov vadd ?_
                     refine oas ?_
                     refine WL.nil ?_
                     exact ag (i + 1, E, RR, jj, gg, jj2, gg2) [10, 12, 14, 0, 1, 4, 5, 6, 7, 8, 9, 40] (by (try dsimp only); exact ⟨by omega, hI2⟩) (by (try dsimp only); omega) rfl cov
     · refine W.exit ?_
       refine WQ.then_exit ?_
       refine WQ.then_exit ?_
       refine WQ.block_hit ?_
       refine WQ.then ?_
       refine sr ?_
       refine omv ?_
       refine oas ?_
       refine nq ?_
       refine W.ret ?_
       refine WQ.ret1 Try.results12 (.tmp rfl) ?_
       intro w' hp; exact ⟨by first | rfl | (simp; done) | (simp [*]; done) | simp_all, hp.forget⟩
   · refine on rfl (decide_eq_false g1) ?_
     refine on rfl (decide_eq_false g1) ?_
     refine ov (V_pick_fd rfl g1 rfl) ?_
     refine nq ?_
     refine W.cond_false rfl rfl ?_
     refine W.exit ?_
     refine WQ.then_exit ?_
     refine WQ.then_exit ?_
     refine WQ.block_hit ?_
     refine WQ.then ?_
     refine sr ?_
     refine omv ?_
     refine oas ?_
     refine nq ?_
     refine W.ret ?_
     refine WQ.ret1 Try.results12 (.tmp rfl) ?_
     intro w' hp; exact ⟨by first | rfl | (simp; done) | (simp [*]; done) | simp_all, hp.forget⟩
 · refine W.region ?_
   refine omv ?_
   refine cp rfl (fun w hp => new21_bad many hm w) ?_
   refine omv ?_
   refine ov vex ?_
   refine ov vex ?_
   refine oas ?_
   refine oas ?_
   refine nx ?_
   refine omv ?_
   refine cp rfl (fun w hp => rnew21_bad many hm w) ?_
   refine omv ?_
   refine ov vex ?_
   refine ov vex ?_
   refine oas ?_
   refine oas ?_
   refine nq ?_
   refine W.seq ?_
   refine sr ?_
   refine omv ?_
   refine ov (V_eqlP (by kernel_rfl) rfl rfl) ?_
   refine omv ?_
   refine on rfl rfl ?_
   refine on rfl rfl ?_
   refine ov (V_pick_t rfl rfl rfl) ?_
   refine omv ?_
   refine on rfl rfl ?_
   refine on rfl rfl ?_
   refine ov (V_pick_t rfl rfl rfl) ?_
   refine nq ?_
   refine W.cond_true rfl rfl ?_
   refine sr ?_
   refine omv ?_
   refine omv ?_
   refine oy rfl rfl ?_
   refine omv ?_
   refine oy rfl rfl ?_
   refine ov (v2 V_neq) ?_
   refine ov (V_pick_t rfl rfl rfl) ?_
   refine oas ?_
   refine nq ?_
   refine W.ret ?_
   refine WQ.then_ret ?_
   refine WQ.ret1 Try.results12 (.tmp rfl) ?_
   intro w' hp; exact ⟨by first | rfl | (simp; done) | (simp [*]; done) | simp_all, hp.forget⟩

end Go.Proofs.Ytnpnnafcdnefiaa