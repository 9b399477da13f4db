/- The statements of layer 21: their walks. -/
import Derived.Test.YtnpnnafcdnefiaaLive
import Derived.Test.YtnpnnafcdnefiaaXC
set_option linter.unusedVariables false
set_option linter.unusedSimpArgs false

namespace Go.Proofs.Ytnpnnafcdnefiaa
open Go.X

theorem of21_calls (b : Int) (w : World) : Calls Try.prog 30 [.int .u8 b].toArray w fun e w' => e = .returned (AG [(64, iv .u8 (ofL b))]) ∧ HP w w' [] [] := by
 refine calls_of_W Try.func30 rfl Try.ntmps30 rfl rfl (HP.refl w []) ?_
 refine sr ?_
 refine oal [(64, List.replicate 64 (.int .u8 0))] (fun b2 => ?_)
 refine nx ?_
 refine oal [(64, List.replicate 64 (.int .u8 0))] (fun b3 => ?_)
 refine nx ?_
 simp only [iv_rep]
 refine omv ?_
 refine ov (viA0 (j := 0) 64) ?_
 first | refine ostI ?_ | refine ost ?_
 refine nx ?_
 refine omv ?_
 refine ov (viA0 (j := 63) 64) ?_
 first | refine ostI ?_ | refine ost ?_
 refine nx ?_
 refine ov (vlda 64) ?_
 refine osta 64 ?_
 refine nq ?_
 refine W.ret ?_
 refine WQ.ret1 Try.results30 (.cellA 64 (by kernel_rfl) rfl at_ (by rfl)) ?_
 intro w' hp; exact ⟨by first | rfl | (simp; done) | (simp [*]; done) | simp_all, hp.forget⟩

theorem awake21_calls (w : World) : Calls Try.prog 28 ([] : List Value).toArray w fun e w' => e = .returned (.bool true) ∧ HP w w' [] [] := by
 have l0 := newD_live (n := 2)
 have l1 : Live (wrD (newD 2) 0 (ofL 1)) := l0.wrL
 have l2 : Live (syD (wrD (newD 2) 0 (ofL 1))) := l1.syL
 have s1 := ofL_sec (b := 1) (by omega)
 have s2 := ofL_sec (b := 2) (by omega)
 have k0 := newD_ok (n := 2) (by omega) (by omega)
 have k1 : DOK (wrD (newD 2) 0 (ofL 1)) := wrD_ok k0 s1
 have k2 : DOK (syD (wrD (newD 2) 0 (ofL 1))) := syD_ok k1
 have k3 : DOK (wrD (syD (wrD (newD 2) 0 (ofL 1))) 0 (ofL 2)) := wrD_ok k2 s2
 have k4 : DOK (crD (wrD (syD (wrD (newD 2) 0 (ofL 1))) 0 (ofL 2)) 0) := crD_ok k3
 have n4 : 0 < (crD (wrD (syD (wrD (newD 2) 0 (ofL 1))) 0 (ofL 2)) 0).n := by show 0 < (wrD (syD (wrD (newD 2) 0 (ofL 1))) 0 (ofL 2)).n; rw [wr_n, sy_n, wr_n]; decide
 have e1 : wrE (newD 2) 0 = 0 := by rw [l0.wrE]; rfl
 have e2 : burnE (wrD (newD 2) 0 (ofL 1)) = 0 := l1.burn.1
 have e3 : wrE (syD (wrD (newD 2) 0 (ofL 1))) 0 = 0 := by rw [l2.wrE, l1.sy, l0.wr]; rfl
 have hrd := rd_in (D := (crD (wrD (syD (wrD (newD 2) 0 (ofL 1))) 0 (ofL 2)) 0)) (i := 0) n4
 have hrs : rdS (crD (wrD (syD (wrD (newD 2) 0 (ofL 1))) 0 (ofL 2)) 0) 0 = ofL 1 := by
   refine hrd.2.trans ?_
   rw [crash_none k3, l2.wr, l1.sy, l0.wr]; rfl
 refine calls_of_W Try.func28 rfl Try.ntmps28 rfl rfl (HP.refl w []) ?_
 refine sr ?_
 refine oas ?_
 refine nx ?_
 refine cg rfl (fun w hp => new21_calls 2 (by omega) (by omega) w) (fun b9 h9 => ?_)
 refine omv ?_
 refine ov vex ?_
 refine ov vex ?_
 refine oas ?_
 refine oas ?_
 refine nq ?_
 refine W.seq ?_
 refine sr ?_
 refine omv ?_
 refine ov (V_eqlP (by kernel_rfl) rfl rfl) ?_
 refine omv ?_
 refine oy rfl rfl ?_
 refine omv ?_
 refine oy rfl rfl ?_
 refine ov (v2 V_neq) ?_
 refine ov (V_pick_f rfl rfl rfl) ?_
 refine nq ?_
 refine W.cond_false rfl (by decide) ?_
 refine W.skip ?_
 refine WQ.then ?_
 refine sr ?_
 refine omv ?_
 refine cp rfl (fun w hp => of21_calls 1 w) ?_
 refine cms rfl (fun w hp => write21_calls b9 (newD 2) k0 0 (ofL 1) s1 w (HP.here hp cov)) ?_
 refine oas ?_
 refine nx ?_
 refine omv ?_
 refine cms rfl (fun w hp => sync21_calls b9 (wrD (newD 2) 0 (ofL 1)) k1 w (HP.here hp cov)) ?_
 refine oas ?_
 refine nx ?_
 refine omv ?_
 refine cp rfl (fun w hp => of21_calls 2 w) ?_
 refine cms rfl (fun w hp => write21_calls b9 (syD (wrD (newD 2) 0 (ofL 1))) k2 0 (ofL 2) s2 w (HP.here hp cov)) ?_
 refine oas ?_
 refine nx ?_
 refine omv ?_
 refine cms rfl (fun w hp => crash21_calls b9 (wrD (syD (wrD (newD 2) 0 (ofL 1))) 0 (ofL 2)) k3 0 (by omega) w (HP.here hp cov)) ?_
 refine nx ?_
 refine omv ?_
 refine cms rfl (fun w hp => read21_calls b9 (crD (wrD (syD (wrD (newD 2) 0 (ofL 1))) 0 (ofL 2)) 0) k4 0 w (HP.here hp cov)) ?_
 refine omv ?_
 refine ov vex ?_
 refine ov vex ?_
 have hl6 : (rdS (crD (wrD (syD (wrD (newD 2) 0 (ofL 1))) 0 (ofL 2)) 0) 0).length = 64 := by rw [hrs]; exact s1.1
 refine oal [(64, List.replicate 64 (.int .u8 0))] (fun b6 => ?_)
 refine osta 64 ?_
 refine oas ?_
 refine nq ?_
 refine W.seq ?_
 refine dr (.q 0 (.q 1 (.q 2 (.q 3 (.q 4 (.q 5 (.q 6 (.q 7 (.q 8 (.q 9 (.q 10 (.q 11 (.q 12 (.q 13 (.q 14 (.q 15 (.l 16 (.q 17 (.q 18 (.q 19 (.done))))))))))))))))))))) [(b6, _)] ?_
 refine dq rfl (V_move rfl) ?_
 refine dq rfl (v2 V_eql) ?_
 refine dq rfl (V_move rfl) ?_
 refine dy rfl rfl (by rw [e1]; rfl) (V_move rfl) ?_
 refine dy rfl rfl (by rw [e1]; rfl) (v2 V_eql) ?_
 refine dq rfl (V_pick_t rfl (by rw [e1]; rfl) rfl) ?_
 refine dq rfl (V_move rfl) ?_
 refine dy rfl rfl (by rw [e2]; rfl) (V_move rfl) ?_
 refine dy rfl rfl (by rw [e2]; rfl) (v2 V_eql) ?_
 refine dq rfl (V_pick_t rfl (by rw [e2]; rfl) rfl) ?_
 refine dq rfl (V_move rfl) ?_
 refine dy rfl rfl (by rw [e3]; rfl) (V_move rfl) ?_
 refine dy rfl rfl (by rw [e3]; rfl) (v2 V_eql) ?_
 refine dq rfl (V_pick_t rfl (by rw [e3]; rfl) rfl) ?_
 refine dq rfl (V_move rfl) ?_
 refine dy rfl rfl (by rw [show rdE (crD (wrD (syD (wrD (newD 2) 0 (ofL 1))) 0 (ofL 2)) 0) 0 = 0 from hrd.1]; rfl) (vlda 64) ?_
 refine WD.l ?_
 refine dcp rfl rfl (fun w hp => of21_calls 1 w) ?_ (hg := gy rfl (by rw [show rdE (crD (wrD (syD (wrD (newD 2) 0 (ofL 1))) 0 (ofL 2)) 0) 0 = 0 from hrd.1]; rfl))
 refine dy rfl rfl (by rw [show rdE (crD (wrD (syD (wrD (newD 2) 0 (ofL 1))) 0 (ofL 2)) 0) 0 = 0 from hrd.1]; rfl) (veqlI 3 64 .u8) ?_
 refine dq rfl (V_pick_t rfl (by rw [show rdE (crD (wrD (syD (wrD (newD 2) 0 (ofL 1))) 0 (ofL 2)) 0) 0 = 0 from hrd.1]; rfl) rfl) ?_
 refine dq rfl (V_assign rfl) ?_
 refine WD.done ?_
 refine WQ.then ?_
 refine W.ret ?_
 refine WQ.ret1 Try.results28 (.tmp rfl) ?_
 intro w' hp; exact ⟨congrArg (fun b => Ending.returned (.bool b)) (decide_eq_true hrs), hp.forget⟩

structure Op21 where
  do_ : Int
  i : Int
  b : Int
  kept : Int
instance : Inhabited Op21 := ⟨⟨0, 0, 0, 0⟩⟩
def Op21.c (o : Op21) : List Value := [.int .i64 o.do_, .int .i64 o.i, .int .u8 o.b, .int .u64 o.kept]
def Op21.OK (o : Op21) : Prop := (-9223372036854775808 ≤ o.i ∧ o.i ≤ 9223372036854775807) ∧ (0 ≤ o.b ∧ o.b ≤ 255) ∧ (0 ≤ o.kept ∧ o.kept ≤ 18446744073709551615) ∧ (-9223372036854775808 ≤ o.do_ ∧ o.do_ ≤ 9223372036854775807)
theorem Op21.len (o : Op21) : o.c.length = 4 := rfl
theorem list_choose {α β : Type} {f : α → β} {p : α → Prop} : ∀ {es : List β}, (∀ e ∈ es, ∃ o, e = f o ∧ p o) → ∃ l : List α, es = l.map f ∧ ∀ o ∈ l, p o
  | [], _ => ⟨[], rfl, fun o h => by cases h⟩
  | e :: es, h => by
    obtain ⟨o, rfl, ho⟩ := h e List.mem_cons_self
    obtain ⟨l, rfl, hl⟩ := list_choose (f := f) (p := p) (es := es) fun x hx => h x (List.mem_cons_of_mem _ hx)
    exact ⟨o :: l, rfl, fun x hx => by rcases List.mem_cons.1 hx with rfl | hx; exact ho; exact hl x hx⟩
theorem wf_u64 {n : Int} (h : (Lit.int .u64 n).wf = true) : 0 ≤ n ∧ n ≤ 18446744073709551615 := by
  simp [Lit.wf, IntKind.min, IntKind.max, IntKind.signed, IntKind.bits] at h
  omega
theorem ops21_of {w : World} {A : Option Addr} {n cap : Nat} (h : okD w (.sl (.fcons (.int .i64) (.fcons (.int .i64) (.fcons (.int .u8) (.fcons (.int .u64) .fnil))))) [.slice A n cap]) :
    n ≤ cap ∧ cap ≤ maxLen ∧ ∃ l : List Op21, l.length = n ∧ SrW w 1 A (n * 4) (l.flatMap Op21.c) ∧ ∀ o ∈ l, o.OK := by
  obtain ⟨h1, h2, es, h3, h4, h5⟩ := okD_els (by decide) h
  obtain ⟨l, rfl, hl⟩ := list_choose (f := Op21.c) (p := Op21.OK) (es := es) fun e he => by
    obtain ⟨x0, y0, rfl, ⟨a0, rfl, w0⟩, o1⟩ := okD_fcons (h4 e he).1
    obtain ⟨x1, y1, rfl, ⟨a1, rfl, w1⟩, o2⟩ := okD_fcons o1
    obtain ⟨x2, y2, rfl, ⟨a2, rfl, w2⟩, o3⟩ := okD_fcons o2
    obtain ⟨x3, y3, rfl, ⟨a3, rfl, w3⟩, o4⟩ := okD_fcons o3
    obtain rfl : y3 = [] := o4
    exact ⟨⟨a0, a1, a2, a3⟩, rfl, wf_i64 w1, wf_u8 w2, wf_u64 w3, wf_i64 w0⟩
  exact ⟨h1, h2, l, by simpa using h3, by rw [List.flatMap_def]; exact h5, hl⟩
theorem ops21_get {l : List Op21} (h : ∀ o ∈ l, o.OK) {i : Nat} (hi : i < l.length) : (l.getD i default).OK := by
  rw [List.getD_eq_getElem?_getD, List.getElem?_eq_getElem hi]; exact h _ (List.getElem_mem hi)

theorem diskPlays_calls (many : Int) (A : Option Addr) (n cap : Nat) (l : List Op21) (w : World) (hs : SrW w 1 A (n * 4) (l.flatMap Op21.c)) (hl : l.length = n) (hok : ∀ o ∈ l, o.OK) (hc : n ≤ cap) (hn2 : n ≤ 9223372036854775807) :
    Calls Try.prog 9 [.int .i64 many, .slice A n cap].toArray w fun e w' => e = .returned (.bool true) ∧ HP w w' [] [] := by
 refine calls_of_W Try.func9 rfl Try.ntmps9 rfl rfl (HP.refl w []) ?_
 refine sr ?_
 refine oas ?_
 refine nx ?_
 refine cp rfl (fun w hp => awake21_calls w) ?_
 refine oas ?_
 refine nq ?_
 refine W.seq ?_
 by_cases hm : 1 ≤ many ∧ many ≤ 64
 · obtain ⟨mn, rfl⟩ : ∃ m : Nat, many = m := ⟨many.toNat, by omega⟩
   refine W.region ?_
   refine omv ?_
   refine cg rfl (fun w hp => new21_calls mn (by omega) (by omega) w) (fun b21 h21 => ?_)
   refine omv ?_
   refine ov vex ?_
   refine ov vex ?_
   refine oas ?_
   refine oas ?_
   refine nx ?_
   refine omv ?_
   refine cg rfl (fun w hp => rnew21_calls mn (by omega) (by omega) w) (fun b26 h26 => ?_)
   refine omv ?_
   refine ov vex ?_
   refine ov vex ?_
   refine oas ?_
   refine oas ?_
   refine nq ?_
   refine W.seq ?_
   refine sr ?_
   refine omv ?_
   refine omv ?_
   refine ov (v2 V_neq) ?_
   refine omv ?_
   refine oy rfl (by decide) ?_
   refine omv ?_
   refine oy rfl (by decide) ?_
   refine ov (V_eqlP (by kernel_rfl) rfl rfl) ?_
   refine oy rfl (by decide) ?_
   refine omv ?_
   refine oy rfl (by decide) ?_
   refine ov (V_eqlP (by kernel_rfl) rfl rfl) ?_
   refine oy rfl (by decide) ?_
   refine ov (V_neqB (by kernel_rfl) rfl rfl) ?_
   refine ov (V_pick_f rfl (by decide) rfl) ?_
   refine nq ?_
   refine W.cond_false rfl rfl ?_
   refine W.skip ?_
   refine WQ.then ?_
   refine W.seq ?_
   refine sr ?_
   refine oas ?_
   refine nq ?_
   refine W.block ?_
   -- LOOP 0
   refine W.pick (S' := [(10, _), (0, _), (1, _), (4, _), (5, _), (6, _), (7, _), (8, _), (9, _), (38, _)]) [10, 0, 1, 4, 5, 6, 7, 8, 9, 38] rfl ?_
   refine W.loopG (σ := Nat × DS × RS) (fun ⟨i, D, R⟩ => i ≤ n ∧ DOK D ∧ Rl D R) (fun ⟨i, D, R⟩ => [(10, .int .i64 (i : Nat))]) (fun ⟨i, D, R⟩ => [(b21.d, .cells [(1, [.slice (some ⟨b21.s, 0, none⟩) D.n D.n]), (1, [.map (some b21.m)]), (1, [.int .i64 D.fuse]), (1, [.bool D.dead])] 101), (b21.s, .cells [(D.n * 64, iv .u8 D.sure.flatten)] 58), (b21.m, .obj (mapO .i64 (D.m.map sE) D.ck)), (b26.d, .cells [(1, [.slice (some ⟨b26.s, 0, none⟩) R.n R.n]), (1, [.slice (some ⟨b26.x, 0, none⟩) R.n R.n]), (1, [.slice (some ⟨b26.i, 0, none⟩) R.n R.n]), (1, [.int .i64 R.fuse]), (1, [.bool R.dead])] 130), (b26.s, .cells [(R.n * 64, iv .u8 R.sure.flatten)] 72), (b26.x, .cells [(R.n * 64, iv .u8 R.new.flatten)] 72), (b26.i, .cells [(R.n, bv R.iss), (R.n - R.n, [])] 4)]) [] (fun ⟨i, D, R⟩ => []) (fun ⟨i, D, R⟩ => n - i) (0, newD mn, newR mn) rfl cov ⟨Nat.zero_le _, newD_ok (by omega) (by omega), newR_rl⟩ ?_
   rintro ⟨i, D, R⟩ ⟨hi, hdk, hrl⟩; dsimp only at hi hdk hrl ⊢
   refine W.seq ?_
   refine sr ?_
   refine omv ?_
   refine omv ?_
   refine ov vlenS ?_
   refine ov (v2 V_lss) ?_
   refine omv ?_
   refine WL.splitD rfl (fun g1 => ?_) (fun g1 => ?_)
   · refine oy rfl (decide_eq_true g1) ?_
     refine omv ?_
     refine oy rfl (decide_eq_true g1) ?_
     refine ov (v2 V_lss) ?_
     refine ov (V_pick_td rfl g1 rfl) ?_
     refine omv ?_
     refine WL.splitD rfl (fun g2 => ?_) (fun g2 => ?_)
     · refine oy rfl (decide_eq_true g2) ?_
       refine omv ?_
       refine oy rfl (decide_eq_true g2) ?_
       refine ov (V_neqP (by kernel_rfl) rfl rfl) ?_
       refine ov (V_pick_td rfl g2 rfl) ?_
       refine nq ?_
       refine W.cond_true rfl rfl ?_
       refine W.skip ?_
       refine WQ.then ?_
       refine W.seq ?_
       refine W.block ?_
       refine W.seq ?_
       have hoi := ops21_get hok (i := i) (by omega)
       obtain ⟨hoi1, hoi2, hoi3, hoi4⟩ := hoi
       have hofs := ofL_sec hoi2
       refine W.region ?_
       refine omv ?_
       refine omv ?_
       obtain ⟨bbA, ooA, rfl⟩ := hs.hasN sc
       refine ov (viO 4) ?_
       refine ov (vldOA (ds := [(1, [.int .i64 (l.getD i default).do_]), (1, [.int .i64 (l.getD i default).i]), (1, [.int .u8 (l.getD i default).b]), (1, [.int .u64 (l.getD i default).kept])]) 4 i Op21.len hs rfl) ?_
       refine oal [(1, [.int .i64 0]), (1, [.int .i64 0]), (1, [.int .u8 0]), (1, [.int .u64 0])] (fun b11 => ?_)
       refine osta 4 ?_
       refine nq ?_
       refine W.seq ?_
       generalize l.getD i default = o at hoi1 hoi2 hoi3 hoi4 hofs ⊢
       have hk1 : DOK (wrD D o.i (ofL o.b)) := wrD_ok hdk hofs
       have hk2 : DOK (syD D) := syD_ok hdk
       have hk3 : DOK (fuD D o.i) := fuD_ok hdk hoi1.2
       have hk4 : DOK (crD D o.kept) := crD_ok hdk
       have hrd := @rdS_len
       have hpn := @pend_len
       have hm1 := ents_le hk1
       have hm2 := ents_le hk2
       have hm3 := ents_le hk3
       have hm4 := ents_le hk4
       refine W.region ?_
       refine oas ?_
       refine nq ?_
       refine W.seq ?_
       refine sr ?_
       refine ov (vfa0 0 1) ?_
       refine ov vld ?_
       refine nq ?_
       refine W.block ?_
       refine W.seq ?_
       refine sr ?_
       refine ov (v2 V_eql) ?_
       refine oas ?_
       refine nq ?_
       refine W.cond_dec rfl (fun g3 => ?_) (fun g3 => ?_)
       · refine W.skip ?_
         refine WQ.then ?_
         refine W.cond_true rfl (decide_eq_true g3) ?_
         refine dr (.q 0 (.q 1 (.q 2 (.q 3 (.q 4 (.q 7 (.q 8 (.q 9 (.q 10 (.q 11 (.l 5 (.l 6 (.l 12 (.l 13 (.q 14 (.q 15 (.done))))))))))))))))) [(b11, _)] ?_
         refine dq rfl (V_move rfl) ?_
         refine dq rfl (vfa0 1 1) ?_
         refine dq rfl vld ?_
         refine dq rfl (vfa0 2 1) ?_
         refine dq rfl vld ?_
         refine dq rfl (V_move rfl) ?_
         refine dq rfl (vfa0 1 1) ?_
         refine dq rfl vld ?_
         refine dq rfl (vfa0 2 1) ?_
         refine dq rfl vld ?_
         refine WD.l ?_
         refine dcp rfl rfl (fun w hp => of21_calls o.b w) ?_
         refine WD.l ?_
         refine dcms rfl rfl (fun w hp => write21_calls b21 D hdk o.i (ofL o.b) hofs w (HP.here hp cov)) ?_
         refine WD.l ?_
         refine dcp rfl rfl (fun w hp => of21_calls o.b w) ?_
         refine WD.l ?_
         refine dcg rfl rfl (fun w hp => rwrite21_calls b26 D R hdk hrl o.i (ofL o.b) hofs w (HP.here hp cov)) (fun b83 h83 => ?_)
         refine dq rfl (v2 V_eql) ?_
         refine dq rfl (V_assign rfl) ?_
         refine WD.done ?_
         refine WQ.block_normal ?_
         refine WQ.then ?_
         refine sr ?_
         refine omv ?_
         refine ov (vfa0 1 1) ?_
         refine ov vld ?_
         refine cms rfl (fun w hp => read21_calls b21 (wrD D o.i (ofL o.b)) (wrD_ok hdk hofs) o.i w (HP.here hp cov)) ?_
         refine omv ?_
         refine ov vex ?_
         refine ov vex ?_
         refine oal [(64, List.replicate 64 (.int .u8 0))] (fun b13 => ?_)
         refine osta 64 ?_
         refine oas ?_
         refine nx ?_
         refine omv ?_
         refine ov (vfa0 1 1) ?_
         refine ov vld ?_
         refine cms rfl (fun w hp => rread21_calls b26 (wrD D o.i (ofL o.b)) b83 (wrD_ok hdk hofs) h83 o.i w (HP.here hp cov)) ?_
         refine omv ?_
         refine ov vex ?_
         refine ov vex ?_
         refine oal [(64, List.replicate 64 (.int .u8 0))] (fun b15 => ?_)
         refine osta 64 ?_
         refine oas ?_
         refine nx ?_
         refine omv ?_
         refine cgX rfl (fun w hp => pend21_calls b21 (wrD D o.i (ofL o.b)) (wrD_ok hdk hofs)  w (HP.here hp cov)) (fun b117 h117 => ?_)
         refine omv ?_
         refine cgX rfl (fun w hp => rpend21_calls b26 (wrD D o.i (ofL o.b)) b83 (wrD_ok hdk hofs) h83  w (HP.here hp cov)) (fun b119 h119 => ?_)
         refine cp rfl (fun w hp => ints21_calls _ _ _ _ _ _ _ _ w sw sw sc sc (by omega) (by omega)) ?_
         refine oas ?_
         refine nx ?_
         refine omv ?_
         refine ov vnot ?_
         refine omv ?_
         refine oy rfl (not_t (by simp)) ?_
         refine omv ?_
         refine oy rfl (not_t (by simp)) ?_
         refine ov vnot ?_
         refine ov (V_pick_f rfl (not_t (by simp)) rfl) ?_
         refine omv ?_
         refine oy rfl (not_t (by simp)) ?_
         refine ov (vlda 64) ?_
         refine oy rfl (not_t (by simp)) ?_
         refine ov (vlda 64) ?_
         refine oy rfl (not_t (by simp)) ?_
         refine ov (vneqI 3 64 .u8) ?_
         refine ov (V_pick_f rfl (not_t (by simp)) rfl) ?_
         refine omv ?_
         refine oy rfl (by simp) ?_
         refine omv ?_
         refine oy rfl (by simp) ?_
         refine omv ?_
         refine oy rfl (by simp) ?_
         refine ov (v2 V_neq) ?_
         refine ov (V_pick_f rfl (by simp) rfl) ?_
         refine nq ?_
         refine W.cond_false rfl (by simp) ?_
         refine W.skip ?_
         refine WQ.block_normal ?_
         refine WQ.then ?_
         refine W.region ?_
         refine omv ?_
         first | refine ov vaddN ?_ | refine ov vadd ?_
         refine oas ?_
         refine WL.nil ?_
         exact ag (i + 1, wrD D o.i (ofL o.b), b83) [10, 0, 1, 4, 5, 6, 7, 8, 9, 38] (by (try dsimp only); exact ⟨by omega, wrD_ok hdk hofs, h83⟩) (by (try dsimp only); omega) rfl cov
       · refine W.region ?_
         refine ov (v2 V_eql) ?_
         refine oas ?_
         refine nq ?_
         refine W.cond_dec rfl (fun g4 => ?_) (fun g4 => ?_)
         · refine dr (.q 0 (.q 1 (.q 2 (.q 3 (.q 4 (.q 7 (.q 8 (.q 9 (.q 10 (.q 11 (.l 5 (.l 6 (.l 12 (.l 13 (.q 14 (.q 15 (.done))))))))))))))))) [(b11, _)] ?_
           refine dq rfl (V_move rfl) ?_
           refine dq rfl (vfa0 1 1) ?_
           refine dq rfl vld ?_
           refine dq rfl (vfa0 2 1) ?_
           refine dq rfl vld ?_
           refine dq rfl (V_move rfl) ?_
           refine dq rfl (vfa0 1 1) ?_
           refine dq rfl vld ?_
           refine dq rfl (vfa0 2 1) ?_
           refine dq rfl vld ?_
           refine WD.l ?_
           refine dcp rfl rfl (fun w hp => of21_calls o.b w) ?_
           refine WD.l ?_
           refine dcms rfl rfl (fun w hp => write21_calls b21 D hdk o.i (ofL o.b) hofs w (HP.here hp cov)) ?_
           refine WD.l ?_
           refine dcp rfl rfl (fun w hp => of21_calls o.b w) ?_
           refine WD.l ?_
           refine dcg rfl rfl (fun w hp => rwrite21_calls b26 D R hdk hrl o.i (ofL o.b) hofs w (HP.here hp cov)) (fun b83 h83 => ?_)
           refine dq rfl (v2 V_eql) ?_
           refine dq rfl (V_assign rfl) ?_
           refine WD.done ?_
           refine WQ.block_normal ?_
           refine WQ.then ?_
           refine sr ?_
           refine omv ?_
           refine ov (vfa0 1 1) ?_
           refine ov vld ?_
           refine cms rfl (fun w hp => read21_calls b21 (wrD D o.i (ofL o.b)) (wrD_ok hdk hofs) o.i w (HP.here hp cov)) ?_
           refine omv ?_
           refine ov vex ?_
           refine ov vex ?_
           refine oal [(64, List.replicate 64 (.int .u8 0))] (fun b13 => ?_)
           refine osta 64 ?_
           refine oas ?_
           refine nx ?_
           refine omv ?_
           refine ov (vfa0 1 1) ?_
           refine ov vld ?_
           refine cms rfl (fun w hp => rread21_calls b26 (wrD D o.i (ofL o.b)) b83 (wrD_ok hdk hofs) h83 o.i w (HP.here hp cov)) ?_
           refine omv ?_
           refine ov vex ?_
           refine ov vex ?_
           refine oal [(64, List.replicate 64 (.int .u8 0))] (fun b15 => ?_)
           refine osta 64 ?_
           refine oas ?_
           refine nx ?_
           refine omv ?_
           refine cgX rfl (fun w hp => pend21_calls b21 (wrD D o.i (ofL o.b)) (wrD_ok hdk hofs)  w (HP.here hp cov)) (fun b117 h117 => ?_)
           refine omv ?_
           refine cgX rfl (fun w hp => rpend21_calls b26 (wrD D o.i (ofL o.b)) b83 (wrD_ok hdk hofs) h83  w (HP.here hp cov)) (fun b119 h119 => ?_)
           refine cp rfl (fun w hp => ints21_calls _ _ _ _ _ _ _ _ w sw sw sc sc (by omega) (by omega)) ?_
           refine oas ?_
           refine nx ?_
           refine omv ?_
           refine ov vnot ?_
           refine omv ?_
           refine oy rfl (not_t (by simp)) ?_
           refine omv ?_
           refine oy rfl (not_t (by simp)) ?_
           refine ov vnot ?_
           refine ov (V_pick_f rfl (not_t (by simp)) rfl) ?_
           refine omv ?_
           refine oy rfl (not_t (by simp)) ?_
           refine ov (vlda 64) ?_
           refine oy rfl (not_t (by simp)) ?_
           refine ov (vlda 64) ?_
           refine oy rfl (not_t (by simp)) ?_
           refine ov (vneqI 3 64 .u8) ?_
           refine ov (V_pick_f rfl (not_t (by simp)) rfl) ?_
           refine omv ?_
           refine oy rfl (by simp) ?_
           refine omv ?_
           refine oy rfl (by simp) ?_
           refine omv ?_
           refine oy rfl (by simp) ?_
           refine ov (v2 V_neq) ?_
           refine ov (V_pick_f rfl (by simp) rfl) ?_
           refine nq ?_
           refine W.cond_false rfl (by simp) ?_
           refine W.skip ?_
           refine WQ.block_normal ?_
           refine WQ.then ?_
           refine W.region ?_
           refine omv ?_
           first | refine ov vaddN ?_ | refine ov vadd ?_
           refine oas ?_
           refine WL.nil ?_
           exact ag (i + 1, wrD D o.i (ofL o.b), b83) [10, 0, 1, 4, 5, 6, 7, 8, 9, 38] (by (try dsimp only); exact ⟨by omega, wrD_ok hdk hofs, h83⟩) (by (try dsimp only); omega) rfl cov
         · refine W.seq ?_
           refine W.region ?_
           refine ov (v2 V_eql) ?_
           refine oas ?_
           refine nq ?_
           refine W.cond_dec rfl (fun g5 => ?_) (fun g5 => ?_)
           · refine W.region ?_
             refine omv ?_
             refine cms rfl (fun w hp => sync21_calls b21 D hdk  w (HP.here hp cov)) ?_
             refine omv ?_
             refine cg rfl (fun w hp => rsync21_calls b26 D R hdk hrl  w (HP.here hp cov)) (fun b90 h90 => ?_)
             refine ov (v2 V_eql) ?_
             refine oas ?_
             refine WL.nil ?_
             refine WQ.block_normal ?_
             refine WQ.then ?_
             refine sr ?_
             refine omv ?_
             refine ov (vfa0 1 1) ?_
             refine ov vld ?_
             refine cms rfl (fun w hp => read21_calls b21 (syD D) (syD_ok hdk) o.i w (HP.here hp cov)) ?_
             refine omv ?_
             refine ov vex ?_
             refine ov vex ?_
             refine oal [(64, List.replicate 64 (.int .u8 0))] (fun b13 => ?_)
             refine osta 64 ?_
             refine oas ?_
             refine nx ?_
             refine omv ?_
             refine ov (vfa0 1 1) ?_
             refine ov vld ?_
             refine cms rfl (fun w hp => rread21_calls b26 (syD D) b90 (syD_ok hdk) h90 o.i w (HP.here hp cov)) ?_
             refine omv ?_
             refine ov vex ?_
             refine ov vex ?_
             refine oal [(64, List.replicate 64 (.int .u8 0))] (fun b15 => ?_)
             refine osta 64 ?_
             refine oas ?_
             refine nx ?_
             refine omv ?_
             refine cgX rfl (fun w hp => pend21_calls b21 (syD D) (syD_ok hdk)  w (HP.here hp cov)) (fun b117 h117 => ?_)
             refine omv ?_
             refine cgX rfl (fun w hp => rpend21_calls b26 (syD D) b90 (syD_ok hdk) h90  w (HP.here hp cov)) (fun b119 h119 => ?_)
             refine cp rfl (fun w hp => ints21_calls _ _ _ _ _ _ _ _ w sw sw sc sc (by omega) (by omega)) ?_
             refine oas ?_
             refine nx ?_
             refine omv ?_
             refine ov vnot ?_
             refine omv ?_
             refine oy rfl (not_t (by simp)) ?_
             refine omv ?_
             refine oy rfl (not_t (by simp)) ?_
             refine ov vnot ?_
             refine ov (V_pick_f rfl (not_t (by simp)) rfl) ?_
             refine omv ?_
             refine oy rfl (not_t (by simp)) ?_
             refine ov (vlda 64) ?_
             refine oy rfl (not_t (by simp)) ?_
             refine ov (vlda 64) ?_
             refine oy rfl (not_t (by simp)) ?_
             refine ov (vneqI 3 64 .u8) ?_
             refine ov (V_pick_f rfl (not_t (by simp)) rfl) ?_
             refine omv ?_
             refine oy rfl (by simp) ?_
             refine omv ?_
             refine oy rfl (by simp) ?_
             refine omv ?_
             refine oy rfl (by simp) ?_
             refine ov (v2 V_neq) ?_
             refine ov (V_pick_f rfl (by simp) rfl) ?_
             refine nq ?_
             refine W.cond_false rfl (by simp) ?_
             refine W.skip ?_
             refine WQ.block_normal ?_
             refine WQ.then ?_
             refine W.region ?_
             refine omv ?_
             first | refine ov vaddN ?_ | refine ov vadd ?_
             refine oas ?_
             refine WL.nil ?_
             exact ag (i + 1, syD D, b90) [10, 0, 1, 4, 5, 6, 7, 8, 9, 38] (by (try dsimp only); exact ⟨by omega, syD_ok hdk, h90⟩) (by (try dsimp only); omega) rfl cov
           · refine W.seq ?_
             refine W.region ?_
             refine ov (v2 V_eql) ?_
             refine oas ?_
             refine nq ?_
             refine W.cond_dec rfl (fun g6 => ?_) (fun g6 => ?_)
             · refine W.seq ?_
               refine W.region ?_
               refine omv ?_
               refine ov (vfa0 1 1) ?_
               refine ov vld ?_
               refine cms rfl (fun w hp => fuse21_calls b21 D hdk o.i hoi1 w (HP.here hp cov)) ?_
               refine nq ?_
               refine W.region ?_
               refine omv ?_
               refine ov (vfa0 1 1) ?_
               refine ov vld ?_
               refine cg rfl (fun w hp => rfuse21_calls b26 D R hdk hrl o.i hoi1 w (HP.here hp cov)) (fun b101 h101 => ?_)
               refine WL.nil ?_
               refine WQ.block_normal ?_
               refine WQ.then ?_
               refine sr ?_
               refine omv ?_
               refine ov (vfa0 1 1) ?_
               refine ov vld ?_
               refine cms rfl (fun w hp => read21_calls b21 (fuD D o.i) (fuD_ok hdk hoi1.2) o.i w (HP.here hp cov)) ?_
               refine omv ?_
               refine ov vex ?_
               refine ov vex ?_
               refine oal [(64, List.replicate 64 (.int .u8 0))] (fun b13 => ?_)
               refine osta 64 ?_
               refine oas ?_
               refine nx ?_
               refine omv ?_
               refine ov (vfa0 1 1) ?_
               refine ov vld ?_
               refine cms rfl (fun w hp => rread21_calls b26 (fuD D o.i) b101 (fuD_ok hdk hoi1.2) h101 o.i w (HP.here hp cov)) ?_
               refine omv ?_
               refine ov vex ?_
               refine ov vex ?_
               refine oal [(64, List.replicate 64 (.int .u8 0))] (fun b15 => ?_)
               refine osta 64 ?_
               refine oas ?_
               refine nx ?_
               refine omv ?_
               refine cgX rfl (fun w hp => pend21_calls b21 (fuD D o.i) (fuD_ok hdk hoi1.2)  w (HP.here hp cov)) (fun b117 h117 => ?_)
               refine omv ?_
               refine cgX rfl (fun w hp => rpend21_calls b26 (fuD D o.i) b101 (fuD_ok hdk hoi1.2) h101  w (HP.here hp cov)) (fun b119 h119 => ?_)
               refine cp rfl (fun w hp => ints21_calls _ _ _ _ _ _ _ _ w sw sw sc sc (by omega) (by omega)) ?_
               refine oas ?_
               refine nx ?_
               refine omv ?_
               refine ov vnot ?_
               refine omv ?_
               refine oy rfl rfl ?_
               refine omv ?_
               refine oy rfl rfl ?_
               refine ov vnot ?_
               refine ov (V_pick_f rfl rfl rfl) ?_
               refine omv ?_
               refine oy rfl (not_t (by simp)) ?_
               refine ov (vlda 64) ?_
               refine oy rfl (not_t (by simp)) ?_
               refine ov (vlda 64) ?_
               refine oy rfl (not_t (by simp)) ?_
               refine ov (vneqI 3 64 .u8) ?_
               refine ov (V_pick_f rfl (not_t (by simp)) rfl) ?_
               refine omv ?_
               refine oy rfl (by simp) ?_
               refine omv ?_
               refine oy rfl (by simp) ?_
               refine omv ?_
               refine oy rfl (by simp) ?_
               refine ov (v2 V_neq) ?_
               refine ov (V_pick_f rfl (by simp) rfl) ?_
               refine nq ?_
               refine W.cond_false rfl (by simp) ?_
               refine W.skip ?_
               refine WQ.block_normal ?_
               refine WQ.then ?_
               refine W.region ?_
               refine omv ?_
               first | refine ov vaddN ?_ | refine ov vadd ?_
               refine oas ?_
               refine WL.nil ?_
               exact ag (i + 1, fuD D o.i, b101) [10, 0, 1, 4, 5, 6, 7, 8, 9, 38] (by (try dsimp only); exact ⟨by omega, fuD_ok hdk hoi1.2, h101⟩) (by (try dsimp only); omega) rfl cov
             · refine W.seq ?_
               refine W.region ?_
               refine omv ?_
               refine ov (vfa0 3 1) ?_
               refine ov vld ?_
               refine cms rfl (fun w hp => crash21_calls b21 D hdk o.kept hoi3 w (HP.here hp cov)) ?_
               refine nq ?_
               refine W.region ?_
               refine omv ?_
               refine ov (vfa0 3 1) ?_
               refine ov vld ?_
               refine cg rfl (fun w hp => rcrash21_calls b26 D R hdk hrl o.kept hoi3 w (HP.here hp cov)) (fun b66 h66 => ?_)
               refine WL.nil ?_
               refine WQ.block_normal ?_
               refine WQ.then ?_
               refine sr ?_
               refine omv ?_
               refine ov (vfa0 1 1) ?_
               refine ov vld ?_
               refine cms rfl (fun w hp => read21_calls b21 (crD D o.kept) (crD_ok hdk) o.i w (HP.here hp cov)) ?_
               refine omv ?_
               refine ov vex ?_
               refine ov vex ?_
               refine oal [(64, List.replicate 64 (.int .u8 0))] (fun b13 => ?_)
               refine osta 64 ?_
               refine oas ?_
               refine nx ?_
               refine omv ?_
               refine ov (vfa0 1 1) ?_
               refine ov vld ?_
               refine cms rfl (fun w hp => rread21_calls b26 (crD D o.kept) b66 (crD_ok hdk) h66 o.i w (HP.here hp cov)) ?_
               refine omv ?_
               refine ov vex ?_
               refine ov vex ?_
               refine oal [(64, List.replicate 64 (.int .u8 0))] (fun b15 => ?_)
               refine osta 64 ?_
               refine oas ?_
               refine nx ?_
               refine omv ?_
               refine cgX rfl (fun w hp => pend21_calls b21 (crD D o.kept) (crD_ok hdk)  w (HP.here hp cov)) (fun b117 h117 => ?_)
               refine omv ?_
               refine cgX rfl (fun w hp => rpend21_calls b26 (crD D o.kept) b66 (crD_ok hdk) h66  w (HP.here hp cov)) (fun b119 h119 => ?_)
               refine cp rfl (fun w hp => ints21_calls _ _ _ _ _ _ _ _ w sw sw sc sc (by omega) (by omega)) ?_
               refine oas ?_
               refine nx ?_
               refine omv ?_
               refine ov vnot ?_
               refine omv ?_
               refine oy rfl rfl ?_
               refine omv ?_
               refine oy rfl rfl ?_
               refine ov vnot ?_
               refine ov (V_pick_f rfl rfl rfl) ?_
               refine omv ?_
               refine oy rfl (not_t (by simp)) ?_
               refine ov (vlda 64) ?_
               refine oy rfl (not_t (by simp)) ?_
               refine ov (vlda 64) ?_
               refine oy rfl (not_t (by simp)) ?_
               refine ov (vneqI 3 64 .u8) ?_
               refine ov (V_pick_f rfl (not_t (by simp)) rfl) ?_
               refine omv ?_
               refine oy rfl (by simp) ?_
               refine omv ?_
               refine oy rfl (by simp) ?_
               refine omv ?_
               refine oy rfl (by simp) ?_
               refine ov (v2 V_neq) ?_
               refine ov (V_pick_f rfl (by simp) rfl) ?_
               refine nq ?_
               refine W.cond_false rfl (by simp) ?_
               refine W.skip ?_
               refine WQ.block_normal ?_
               refine WQ.then ?_
               refine W.region ?_
               refine omv ?_
               first | refine ov vaddN ?_ | refine ov vadd ?_
               refine oas ?_
               refine WL.nil ?_
               exact ag (i + 1, crD D o.kept, b66) [10, 0, 1, 4, 5, 6, 7, 8, 9, 38] (by (try dsimp only); exact ⟨by omega, crD_ok hdk, h66⟩) (by (try dsimp only); omega) rfl cov
     · refine on rfl (decide_eq_false g2) ?_
       refine on rfl (decide_eq_false g2) ?_
       refine ov (V_pick_fd rfl g2 rfl) ?_
       refine nq ?_
       refine W.cond_false rfl rfl ?_
       refine W.exit ?_
       refine WQ.then_exit ?_
       refine WQ.then_exit ?_
       refine WQ.block_hit ?_
       refine WQ.then ?_
       refine sr ?_
       refine omv ?_
       refine oas ?_
       refine nq ?_
       refine W.ret ?_
       refine WQ.ret1 Try.results9 (.tmp rfl) ?_
       intro w' hp; exact ⟨by first | rfl | (simp; done) | (simp [*]; done) | simp_all, hp.forget⟩
   · refine on rfl (decide_eq_false g1) ?_
     refine on rfl (decide_eq_false g1) ?_
     refine ov (V_pick_fd rfl g1 rfl) ?_
     refine omv ?_
     refine on rfl rfl ?_
     refine on rfl rfl ?_
     refine ov (V_pick_f rfl rfl rfl) ?_
     refine nq ?_
     refine W.cond_false rfl rfl ?_
     refine W.exit ?_
     refine WQ.then_exit ?_
     refine WQ.then_exit ?_
     refine WQ.block_hit ?_
     refine WQ.then ?_
     refine sr ?_
     refine omv ?_
     refine oas ?_
     refine nq ?_
     refine W.ret ?_
     refine WQ.ret1 Try.results9 (.tmp rfl) ?_
     intro w' hp; exact ⟨by first | rfl | (simp; done) | (simp [*]; done) | simp_all, hp.forget⟩
 · refine W.region ?_
   refine omv ?_
   refine cp rfl (fun w hp => new21_bad many hm w) ?_
   refine omv ?_
   refine ov vex ?_
   refine ov vex ?_
   refine oas ?_
   refine oas ?_
   refine nx ?_
   refine omv ?_
   refine cp rfl (fun w hp => rnew21_bad many hm w) ?_
   refine omv ?_
   refine ov vex ?_
   refine ov vex ?_
   refine oas ?_
   refine oas ?_
   refine nq ?_
   refine W.seq ?_
   refine sr ?_
   refine omv ?_
   refine omv ?_
   refine ov (v2 V_neq) ?_
   refine omv ?_
   refine oy rfl (by decide) ?_
   refine omv ?_
   refine oy rfl (by decide) ?_
   refine ov (V_eqlP (by kernel_rfl) rfl rfl) ?_
   refine oy rfl (by decide) ?_
   refine omv ?_
   refine oy rfl (by decide) ?_
   refine ov (V_eqlP (by kernel_rfl) rfl rfl) ?_
   refine oy rfl (by decide) ?_
   refine ov (V_neqB (by kernel_rfl) rfl rfl) ?_
   refine ov (V_pick_f rfl (by decide) rfl) ?_
   refine nq ?_
   refine W.cond_false rfl rfl ?_
   refine W.skip ?_
   refine WQ.then ?_
   refine W.seq ?_
   refine sr ?_
   refine oas ?_
   refine nq ?_
   refine W.block ?_
   -- LOOP 1
   refine W.pick (S' := [(10, _), (0, _), (1, _), (4, _), (5, _), (6, _), (7, _), (8, _), (9, _), (38, _)]) [10, 0, 1, 4, 5, 6, 7, 8, 9, 38] rfl ?_
   refine W.loopG (σ := Nat) (fun i => i = 0) (fun i => [(10, .int .i64 (i : Nat))]) (fun i => []) [] (fun i => []) (fun i => 0) 0 rfl cov rfl ?_
   rintro i hi
   refine W.seq ?_
   refine sr ?_
   refine omv ?_
   refine omv ?_
   refine ov vlenS ?_
   refine ov (v2 V_lss) ?_
   refine omv ?_
   refine WL.splitD rfl (fun g7 => ?_) (fun g7 => ?_)
   · refine oy rfl (decide_eq_true g7) ?_
     refine omv ?_
     refine oy rfl (decide_eq_true g7) ?_
     refine ov (v2 V_lss) ?_
     refine ov (V_pick_td rfl g7 rfl) ?_
     refine omv ?_
     refine WL.splitD rfl (fun g8 => ?_) (fun g8 => ?_)
     · refine oy rfl (decide_eq_true g8) ?_
       refine omv ?_
       refine oy rfl (decide_eq_true g8) ?_
       refine ov (V_neqP (by kernel_rfl) rfl rfl) ?_
       refine ov (V_pick_td rfl g8 rfl) ?_
       refine nq ?_
       refine W.cond_false rfl rfl ?_
       refine W.exit ?_
       refine WQ.then_exit ?_
       refine WQ.then_exit ?_
       refine WQ.block_hit ?_
       refine WQ.then ?_
       refine sr ?_
       refine omv ?_
       refine oas ?_
       refine nq ?_
       refine W.ret ?_
       refine WQ.ret1 Try.results9 (.tmp rfl) ?_
       intro w' hp; exact ⟨by first | rfl | (simp; done) | (simp [*]; done) | simp_all, hp.forget⟩
     · refine on rfl (decide_eq_false g8) ?_
       refine on rfl (decide_eq_false g8) ?_
       refine ov (V_pick_fd rfl g8 rfl) ?_
       refine nq ?_
       refine W.cond_false rfl rfl ?_
       refine W.exit ?_
       refine WQ.then_exit ?_
       refine WQ.then_exit ?_
       refine WQ.block_hit ?_
       refine WQ.then ?_
       refine sr ?_
       refine omv ?_
       refine oas ?_
       refine nq ?_
       refine W.ret ?_
       refine WQ.ret1 Try.results9 (.tmp rfl) ?_
       intro w' hp; exact ⟨by first | rfl | (simp; done) | (simp [*]; done) | simp_all, hp.forget⟩
   · refine on rfl (decide_eq_false g7) ?_
     refine on rfl (decide_eq_false g7) ?_
     refine ov (V_pick_fd rfl g7 rfl) ?_
     refine omv ?_
     refine on rfl rfl ?_
     refine on rfl rfl ?_
     refine ov (V_pick_f rfl rfl rfl) ?_
     refine nq ?_
     refine W.cond_false rfl rfl ?_
     refine W.exit ?_
     refine WQ.then_exit ?_
     refine WQ.then_exit ?_
     refine WQ.block_hit ?_
     refine WQ.then ?_
     refine sr ?_
     refine omv ?_
     refine oas ?_
     refine nq ?_
     refine W.ret ?_
     refine WQ.ret1 Try.results9 (.tmp rfl) ?_
     intro w' hp; exact ⟨by first | rfl | (simp; done) | (simp [*]; done) | simp_all, hp.forget⟩

end Go.Proofs.Ytnpnnafcdnefiaa