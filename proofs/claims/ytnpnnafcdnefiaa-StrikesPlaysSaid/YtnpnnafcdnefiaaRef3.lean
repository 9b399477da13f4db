/- Disks: the document's answer: Sync, Pending, Crash. -/
import Derived.Test.YtnpnnafcdnefiaaRef2
set_option linter.unusedVariables false
set_option linter.unusedSimpArgs false

namespace Go.Proofs.Ytnpnnafcdnefiaa
open Go.X
/-- Of what was gone through so far. -/
structure SyI (D : DS) (R : RS) (i : Nat) (su : List (List Int)) (bs : List Bool) : Prop where
  len : su.length = D.n
  secs : ∀ s ∈ su, Sec s
  get : ∀ j, j < D.n → su.getD j [] = if j < i then cur D j else D.sure.getD j []
  blen : bs.length = D.n
  bget : ∀ j, j < D.n → bs.getD j false = if j < i then false else R.iss.getD j false
theorem SyI.start {D : DS} {R : RS} (hok : DOK D) (h : Rl D R) : SyI D R 0 R.sure R.iss :=
  ⟨by rw [h.sure]; exact hok.len, by rw [h.sure]; exact hok.secs, fun j _ => by rw [h.sure]; rfl, h.ilen, fun j _ => rfl⟩
theorem SyI.yes {D : DS} {R : RS} (hok : DOK D) (h : Rl D R) {i : Nat} {su : List (List Int)} {bs : List Bool} (hi : i < D.n) (hs : SyI D R i su bs) (hb : R.iss.getD i false = true) : SyI D R (i + 1) (su.set i (R.new.getD i [])) (bs.set i false) := by
  have hc := h.cur hi
  rw [if_pos hb] at hc
  obtain ⟨h1, h2, h3, h4, h5⟩ := hs
  refine ⟨by simp [h1], fun s hs => ?_, fun j hj => ?_, by simp [h4], fun j hj => ?_⟩
  · rcases List.mem_or_eq_of_mem_set hs with h | rfl
    · exact h2 s h
    · rw [hc]; exact hok.cur hi
  · rw [getD_set (by omega), h3 j hj, hc]
    by_cases e : i = j
    · subst e; rw [if_pos rfl, if_pos (by omega)]
    · rw [if_neg e]; by_cases e2 : j < i
      · rw [if_pos e2, if_pos (by omega)]
      · rw [if_neg e2, if_neg (by omega)]
  · rw [getD_set (by omega), h5 j hj]
    by_cases e : i = j
    · subst e; rw [if_pos rfl, if_pos (by omega)]
    · rw [if_neg e]; by_cases e2 : j < i
      · rw [if_pos e2, if_pos (by omega)]
      · rw [if_neg e2, if_neg (by omega)]
theorem SyI.no {D : DS} {R : RS} (h : Rl D R) {i : Nat} {su : List (List Int)} {bs : List Bool} (hi : i < D.n) (hs : SyI D R i su bs) (hb : R.iss.getD i false = false) : SyI D R (i + 1) su (bs.set i false) := by
  have hc := h.cur hi
  rw [hb] at hc
  rw [if_neg (by simp), h.sure] at hc
  obtain ⟨h1, h2, h3, h4, h5⟩ := hs
  refine ⟨h1, h2, fun j hj => ?_, by simp [h4], fun j hj => ?_⟩
  · rw [h3 j hj]
    by_cases e : i = j
    · subst e; rw [if_neg (by omega), if_pos (by omega), hc]
    · by_cases e2 : j < i
      · rw [if_pos e2, if_pos (by omega)]
      · rw [if_neg e2, if_neg (by omega)]
  · rw [getD_set (by omega), h5 j hj]
    by_cases e : i = j
    · subst e; rw [if_pos rfl, if_pos (by omega)]
    · rw [if_neg e]; by_cases e2 : j < i
      · rw [if_pos e2, if_pos (by omega)]
      · rw [if_neg e2, if_neg (by omega)]
theorem SyI.done {D : DS} {R : RS} (h : Rl D R) {su : List (List Int)} {bs : List Bool} (hs : SyI D R D.n su bs) : Rl (flush D) { R with sure := su, iss := bs } := by
  obtain ⟨h1, h2, h3, h4, h5⟩ := hs
  refine ⟨h.n, ?_, h.fuse, h.dead, h.nlen, h.news, h4, fun i hi => ?_, fun i s hx => by cases hx⟩
  · apply List.ext_getElem
    · simp [flush, merged, h1]
    · intro i hi1 hi2
      have hi : i < D.n := by rw [← h1]; exact hi1
      have e1 : su.getD i [] = su[i] := by rw [List.getD_eq_getElem?_getD, List.getElem?_eq_getElem hi1]; rfl
      have hi3 : i < (merged D).length := hi2
      have e2 : (merged D).getD i [] = (merged D)[i]'hi3 := by rw [List.getD_eq_getElem?_getD, List.getElem?_eq_getElem hi3]; rfl
      show su[i] = (merged D)[i]'hi3
      rw [← e1, ← e2, h3 i hi, if_pos hi, merged_get hi]
  · show bs.getD i false = _
    rw [h5 i hi, if_pos (show i < D.n from hi)]; rfl
theorem SyI.bit {D : DS} {R : RS} {i : Nat} {su : List (List Int)} {bs : List Bool} (hi : i < D.n) (hs : SyI D R i su bs) : bs.getD i false = R.iss.getD i false := by
  rw [hs.bget i hi, if_neg (by omega)]

theorem rsync21_calls (K : RK) (D : DS) (R : RS) (hok : DOK D) (hrl : Rl D R) (w : World) (hr : HP w w [K.d, K.s, K.x, K.i] [(K.d, .cells [(1, [.slice (some ⟨K.s, 0, none⟩) R.n R.n]), (1, [.slice (some ⟨K.x, 0, none⟩) R.n R.n]), (1, [.slice (some ⟨K.i, 0, none⟩) R.n R.n]), (1, [.int .i64 R.fuse]), (1, [.bool R.dead])] 130), (K.s, .cells [(R.n * 64, iv .u8 R.sure.flatten)] 72), (K.x, .cells [(R.n * 64, iv .u8 R.new.flatten)] 72), (K.i, .cells [(R.n, bv R.iss), (R.n - R.n, [])] 4)]) :
    Calls Try.prog 37 [.pointer (some ⟨K.d, 0, none⟩)].toArray w fun e w' => ∃ r : RS, Rl (syD D) r ∧ e = .returned (.int .i64 (burnE D)) ∧ HP w w' [K.d, K.s, K.x, K.i] [(K.d, .cells [(1, [.slice (some ⟨K.s, 0, none⟩) r.n r.n]), (1, [.slice (some ⟨K.x, 0, none⟩) r.n r.n]), (1, [.slice (some ⟨K.i, 0, none⟩) r.n r.n]), (1, [.int .i64 r.fuse]), (1, [.bool r.dead])] 130), (K.s, .cells [(r.n * 64, iv .u8 r.sure.flatten)] 72), (K.x, .cells [(r.n * 64, iv .u8 r.new.flatten)] 72), (K.i, .cells [(r.n, bv r.iss), (r.n - r.n, [])] 4)] := by
 have hn1 := hok.n1
 have hn64 := hok.n64
 have hfu := hok.fuse
 have hlen := hok.len
 obtain ⟨rn, rsu, rfu, rde, rnl, rns, ril, ris, rnw⟩ := id hrl
 refine calls_of_W Try.func37 rfl Try.ntmps37 rfl rfl hr ?_
 refine sr ?_
 refine oas ?_
 refine nq ?_
 refine W.seq ?_
 refine sr ?_
 refine omv ?_
 refine cms rfl (fun w hp => rburn21_calls K D R hok hrl w (HP.here hp cov)) ?_
 refine ov vnot ?_
 refine nq ?_
 refine W.cond rfl (fun g1 => ?_) (fun g1 => ?_)
 · refine W.seq ?_
   refine W.region ?_
   refine oas ?_
   refine nq ?_
   refine W.ret ?_
   refine WQ.then_ret ?_
   refine WQ.ret1 Try.results37 (.tmp rfl) ?_
   intro w' hp; have hb1 : burnE D ≠ 0 := by simpa using g1
   have hb2 : burnE D = 13 := by unfold burnE at hb1 ⊢; split at hb1 <;> simp_all
   rw [sy_dead hb1, hb2]; exact ⟨_, burnR_rl hrl, rfl, hp.cov cov⟩
 · refine W.skip ?_
   refine WQ.then ?_
   refine W.seq ?_
   refine W.seq ?_
   have hb0 : burnE D = 0 := by simpa using g1
   rw [sy_ok hb0, hb0]
   have hr2 := burnR_rl hrl
   have hok2 := burnD_ok hok
   have hDn := burnD_n (D := D)
   generalize burnR R = E at hr2 ⊢
   generalize burnD D = F at hr2 hok2 hDn ⊢
   have hen := hr2.n
   have henl := hr2.nlen
   have heil := hr2.ilen
   have hel : ∀ l ∈ E.new, l.length = 64 := fun l hl => (hr2.news l hl).1
   have hF64 := hok2.n64
   refine W.region ?_
   refine oas ?_
   refine nq ?_
   refine W.block ?_
   -- LOOP 0
   refine W.pick (S' := [(3, _), (0, _), (2, _), (6, _)]) [3, 0, 2, 6] rfl ?_
   refine W.loopG (σ := Nat × List (List Int) × List Bool) (fun ⟨i, su, bs⟩ => i ≤ F.n ∧ SyI F E i su bs) (fun ⟨i, su, bs⟩ => [(3, .int .i64 (i : Nat))]) (fun ⟨i, su, bs⟩ => [(K.s, .cells [(E.n * 64, iv .u8 su.flatten)] 72), (K.i, .cells [(E.n, bv bs), (E.n - E.n, [])] 4)]) [(K.d, _), (K.x, _)] (fun ⟨i, su, bs⟩ => []) (fun ⟨i, su, bs⟩ => F.n - i) (0, E.sure, E.iss) rfl cov ⟨Nat.zero_le _, SyI.start hok2 hr2⟩ ?_
   rintro ⟨i, su, bs⟩ ⟨hi, hsy⟩; dsimp only at hi hsy ⊢
   refine W.seq ?_
   refine sr ?_
   refine omv ?_
   refine omv ?_
   refine ov vnil ?_
   refine ov (vfa0 2 1) ?_
   refine ov vld ?_
   refine ov vlenS ?_
   refine ov (v2 V_lss) ?_
   refine nq ?_
   refine W.cond_dec rfl (fun g2 => ?_) (fun g2 => ?_)
   · refine W.skip ?_
     refine WQ.then ?_
     refine W.seq ?_
     refine W.block ?_
     refine W.seq ?_
     refine W.seq ?_
     have hiF : i < F.n := by omega
     have hbit := hsy.bit hiF
     have hbl := hsy.blen
     have hsl := hsy.len
     have hs64 : ∀ l ∈ su, l.length = 64 := fun l hl => (hsy.secs l hl).1
     have hgl : E.iss.getD i false = true → (E.new[i]?.getD []).length = 64 := fun hb => by
       have hc := hr2.cur hiF
       rw [if_pos hb] at hc
       rw [← List.getD_eq_getElem?_getD, hc]; exact (hok2.cur hiF).1
     refine W.region ?_
     refine omv ?_
     refine ov vnil ?_
     refine ov (vfa0 2 1) ?_
     refine ov vld ?_
     refine omv ?_
     refine ov (viB) ?_
     refine ov (vldBo) ?_
     refine nq ?_
     refine W.cond rfl (fun g3 => ?_) (fun g3 => ?_)
     · have hb1 : E.iss.getD i false = true := by rw [← hbit]; assumption
       have hgl := hgl hb1
       have hgl2 : (E.new.getD i []).length = 64 := by rw [List.getD_eq_getElem?_getD]; exact hgl
       refine dr (.q 0 (.q 1 (.q 2 (.q 3 (.q 4 (.q 5 (.q 6 (.q 7 (.q 8 (.q 9 (.q 10 (.q 11 (.q 12 (.l 13 (.done))))))))))))))) [(K.d, _), (K.x, _)] ?_
       refine dq rfl (V_move rfl) ?_
       refine dq rfl vnil ?_
       refine dq rfl (vfa0 0 1) ?_
       refine dq rfl vld ?_
       refine dq rfl (V_move rfl) ?_
       refine dq rfl (V_move rfl) ?_
       refine dq rfl vnil ?_
       refine dq rfl (vfa0 1 1) ?_
       refine dq rfl vld ?_
       refine dq rfl (V_move rfl) ?_
       refine dq rfl (viSec 64) ?_
       refine dq rfl (vldSec 64 hel) ?_
       refine dq rfl (viSec 64) ?_
       refine WD.l ?_
       refine dstSec 64 hs64 rfl ?_
       refine WD.done ?_
       refine WQ.then ?_
       refine W.region ?_
       refine omv ?_
       refine ov vnil ?_
       refine ov (vfa0 2 1) ?_
       refine ov vld ?_
       refine omv ?_
       refine ov (viB) ?_
       refine ostBo (l := bs) ?_
       refine WL.nil ?_
       refine WQ.block_normal ?_
       refine WQ.then ?_
       refine W.region ?_
       refine omv ?_
       first | refine ov vaddN ?_ | refine ov vadd ?_
       refine oas ?_
       refine WL.nil ?_
       exact ag (i + 1, su.set i (E.new.getD i []), bs.set i false) [3, 0, 2, 6] (by (try dsimp only); exact ⟨hiF, hsy.yes hok2 hr2 hiF hb1⟩) (by (try dsimp only); omega) rfl cov
     · refine W.skip ?_
       refine WQ.then ?_
       refine W.region ?_
       refine omv ?_
       refine ov vnil ?_
       refine ov (vfa0 2 1) ?_
       refine ov vld ?_
       refine omv ?_
       refine ov (viB) ?_
       refine ostBo (l := bs) ?_
       refine WL.nil ?_
       refine WQ.block_normal ?_
       refine WQ.then ?_
       refine W.region ?_
       refine omv ?_
       first | refine ov vaddN ?_ | refine ov vadd ?_
       refine oas ?_
       refine WL.nil ?_
       exact ag (i + 1, su, bs.set i false) [3, 0, 2, 6] (by (try dsimp only); exact ⟨hiF, hsy.no hr2 hiF (by rw [← hbit]; assumption)⟩) (by (try dsimp only); omega) rfl cov
   · refine W.exit ?_
     refine WQ.then_exit ?_
     refine WQ.then_exit ?_
     refine WQ.block_hit ?_
     refine WQ.then ?_
     refine sr ?_
     refine oas ?_
     refine nq ?_
     refine W.ret ?_
     refine WQ.ret1 Try.results37 (.tmp rfl) ?_
     intro w' hp; obtain rfl : i = F.n := by omega
     exact ⟨_, hsy.done hr2, rfl, hp.cov cov⟩

theorem ext_getD {l l2 : List Int} (h : l.length = l2.length) (hg : ∀ j, j < l.length → l.getD j 0 = l2.getD j 0) : l = l2 := by
  apply List.ext_getElem h
  intro j h1 h2
  have := hg j h1
  rwa [List.getD_eq_getElem?_getD, List.getD_eq_getElem?_getD, List.getElem?_eq_getElem h1, List.getElem?_eq_getElem h2] at this

theorem rpend21_calls (K : RK) (D : DS) (R : RS) (hok : DOK D) (hrl : Rl D R) (w : World) (hr : HP w w [K.d, K.s, K.x, K.i] [(K.d, .cells [(1, [.slice (some ⟨K.s, 0, none⟩) R.n R.n]), (1, [.slice (some ⟨K.x, 0, none⟩) R.n R.n]), (1, [.slice (some ⟨K.i, 0, none⟩) R.n R.n]), (1, [.int .i64 R.fuse]), (1, [.bool R.dead])] 130), (K.s, .cells [(R.n * 64, iv .u8 R.sure.flatten)] 72), (K.x, .cells [(R.n * 64, iv .u8 R.new.flatten)] 72), (K.i, .cells [(R.n, bv R.iss), (R.n - R.n, [])] 4)]) :
    Calls Try.prog 43 [.pointer (some ⟨K.d, 0, none⟩)].toArray w fun e w' => ∃ o : Gr, GrOK o D.m.length ∧ e = .returned (.slice (gA o) D.m.length (gC o)) ∧ HP w w' [K.d, K.s, K.x, K.i] ([(K.d, .cells [(1, [.slice (some ⟨K.s, 0, none⟩) R.n R.n]), (1, [.slice (some ⟨K.x, 0, none⟩) R.n R.n]), (1, [.slice (some ⟨K.i, 0, none⟩) R.n R.n]), (1, [.int .i64 R.fuse]), (1, [.bool R.dead])] 130), (K.s, .cells [(R.n * 64, iv .u8 R.sure.flatten)] 72), (K.x, .cells [(R.n * 64, iv .u8 R.new.flatten)] 72), (K.i, .cells [(R.n, bv R.iss), (R.n - R.n, [])] 4)] ++ gL o D.m.length (iv .i64 (pend D)) 3) := by
 have hn1 := hok.n1
 have hn64 := hok.n64
 have hfu := hok.fuse
 have hlen := hok.len
 obtain ⟨rn, rsu, rfu, rde, rnl, rns, ril, ris, rnw⟩ := id hrl
 have hpe := pendR_eq hok hrl
 have hpl := pend_len (D := D)
 refine calls_of_W Try.func43 rfl Try.ntmps43 rfl rfl hr ?_
 refine sr ?_
 refine oas ?_
 refine nx ?_
 refine oas ?_
 refine nq ?_
 refine W.seq ?_
 refine sr ?_
 refine oas ?_
 refine nq ?_
 refine W.block ?_
 -- LOOP 0
 refine W.pick (S' := [(3, _), (4, _), (0, _), (2, _)]) [3, 4, 0, 2] rfl ?_
 refine W.loopG (σ := Nat × Gr) (fun ⟨i, o⟩ => i ≤ D.n ∧ GrOK o (pendR R i).length ∧ (pendR R i).length ≤ i) (fun ⟨i, o⟩ => [(3, .slice (gA o) (pendR R i).length (gC o)), (4, .int .i64 (i : Nat))]) (fun ⟨i, o⟩ => []) [(K.d, _), (K.s, _), (K.x, _), (K.i, _)] (fun ⟨i, o⟩ => gL o (pendR R i).length (iv .i64 (pendR R i)) 3) (fun ⟨i, o⟩ => D.n - i) (0, none) rfl cov ⟨Nat.zero_le _, rfl, Nat.le_refl _⟩ ?_
 rintro ⟨i, o⟩ ⟨hi, ho, hle⟩; dsimp only at hi ho hle ⊢
 refine W.seq ?_
 refine sr ?_
 refine omv ?_
 refine omv ?_
 refine ov vnil ?_
 refine ov (vfa0 2 1) ?_
 refine ov vld ?_
 refine ov vlenS ?_
 refine ov (v2 V_lss) ?_
 refine nq ?_
 refine W.cond_dec rfl (fun g1 => ?_) (fun g1 => ?_)
 · refine W.skip ?_
   refine WQ.then ?_
   refine W.seq ?_
   refine W.block ?_
   refine W.seq ?_
   have hsu := pendR_succ (R := R) (n := i)
   refine W.region ?_
   refine omv ?_
   refine ov vnil ?_
   refine ov (vfa0 2 1) ?_
   refine ov vld ?_
   refine omv ?_
   refine ov (viB) ?_
   refine ov (vldBo) ?_
   refine nq ?_
   refine W.cond rfl (fun g2 => ?_) (fun g2 => ?_)
   · rw [if_pos (by assumption)] at hsu
     refine W.region ?_
     refine omv ?_
     refine omv ?_
     refine obsI (k := .i64) 3 8 [_] (fun b23 => ?_)
     refine oapG 3 8 (fun o24 h24 p24 => ?_)
     refine oas ?_
     refine WL.nil ?_
     refine WQ.block_normal ?_
     refine WQ.then ?_
     refine W.region ?_
     refine omv ?_
     first | refine ov vaddN ?_ | refine ov vadd ?_
     refine oas ?_
     refine WL.nil ?_
     have e1 : (pendR R (i + 1)).length = (pendR R i).length + 1 := by rw [hsu]; simp
     rw [← e1] at h24
     rw [← hsu, ← e1]
     exact ag (i + 1, o24) [3, 4, 0, 2] (by (try dsimp only); exact ⟨by omega, h24, by omega⟩) (by (try dsimp only); omega) rfl cov
   · refine W.skip ?_
     refine WQ.block_normal ?_
     refine WQ.then ?_
     refine W.region ?_
     refine omv ?_
     first | refine ov vaddN ?_ | refine ov vadd ?_
     refine oas ?_
     refine WL.nil ?_
     rw [if_neg (by simp_all)] at hsu
     rw [← hsu] at ho hle ⊢
     exact ag (i + 1, o) [3, 4, 0, 2] (by (try dsimp only); exact ⟨by omega, ho, by omega⟩) (by (try dsimp only); omega) rfl cov
 · refine W.exit ?_
   refine WQ.then_exit ?_
   refine WQ.then_exit ?_
   refine WQ.block_hit ?_
   refine WQ.then ?_
   refine sr ?_
   refine omv ?_
   refine oas ?_
   refine nq ?_
   refine W.ret ?_
   refine WQ.ret1 Try.results43 (.tmp rfl) ?_
   intro w' hp; obtain rfl : i = D.n := by omega
   rw [hpe] at ho hp
   rw [hpl] at ho hp
   rw [hpe, hpl]
   exact ⟨o, ho, rfl, hp.cov cov⟩

theorem ints21_calls (A : Option Addr) (n cap : Nat) (l : List Int) (A2 : Option Addr) (n2 cap2 : Nat) (l2 : List Int) (w : World) (hs : SrW w 1 A n (iv .i64 l)) (hs2 : SrW w 1 A2 n2 (iv .i64 l2)) (hc : n ≤ cap) (hc2 : n2 ≤ cap2) (hn : n ≤ 1000000) (hn2 : n2 ≤ 1000000) :
    Calls Try.prog 42 [.slice A n cap, .slice A2 n2 cap2].toArray w fun e w' => e = .returned (.bool (decide (l = l2))) ∧ HP w w' [] [] := by
 have hl := SrW.ilen hs
 have hl2 := SrW.ilen hs2
 refine calls_of_W Try.func42 rfl Try.ntmps42 rfl rfl (HP.refl w []) ?_
 refine sr ?_
 refine oas ?_
 refine nq ?_
 refine W.seq ?_
 refine sr ?_
 refine omv ?_
 refine ov vlenS ?_
 refine omv ?_
 refine ov vlenS ?_
 refine ov (v2 V_neq) ?_
 refine nq ?_
 refine W.cond_dec rfl (fun g1 => ?_) (fun g1 => ?_)
 · refine W.seq ?_
   refine W.region ?_
   refine oas ?_
   refine nq ?_
   refine W.ret ?_
   refine WQ.then_ret ?_
   refine WQ.ret1 Try.results42 (.tmp rfl) ?_
   intro w' hp; exact ⟨by rw [decide_eq_false (by rintro rfl; omega)], hp.forget⟩
 · refine W.skip ?_
   refine WQ.then ?_
   refine W.seq ?_
   refine sr ?_
   refine oas ?_
   refine nq ?_
   refine W.block ?_
   -- LOOP 0
   refine W.pick (S' := [(5, _), (0, _), (1, _), (4, _), (10, _)]) [5, 0, 1, 4, 10] rfl ?_
   refine W.loopG (σ := Nat) (fun i => i ≤ n ∧ ∀ j, j < i → l.getD j 0 = l2.getD j 0) (fun i => [(5, .int .i64 (i : Nat))]) (fun i => []) [] (fun i => []) (fun i => n - i) 0 rfl cov ⟨Nat.zero_le _, fun j hj => by omega⟩ ?_
   rintro i ⟨hi, heq⟩; dsimp only at hi heq ⊢
   refine W.seq ?_
   refine sr ?_
   refine omv ?_
   refine omv ?_
   refine ov vlenS ?_
   refine ov (v2 V_lss) ?_
   refine nq ?_
   refine W.cond_dec rfl (fun g2 => ?_) (fun g2 => ?_)
   · refine W.skip ?_
     refine WQ.then ?_
     refine W.seq ?_
     refine W.block ?_
     refine W.seq ?_
     obtain ⟨bbA, ooA, rfl⟩ := hs.hasN sc
     obtain ⟨bbA2, ooA2, rfl⟩ := hs2.hasN sc
     refine dr (.q 0 (.q 1 (.q 2 (.q 3 (.q 4 (.q 5 (.q 6 (.q 7 (.q 8 (.done)))))))))) [] ?_
     refine dq rfl (V_move rfl) ?_
     refine dq rfl (V_move rfl) ?_
     first | refine dq rfl viS1 ?_ | refine dq rfl viS1Z ?_
     refine dq rfl (vldS _ hs) ?_
     refine dq rfl (V_move rfl) ?_
     refine dq rfl (V_move rfl) ?_
     first | refine dq rfl viS1 ?_ | refine dq rfl viS1Z ?_
     refine dq rfl (vldS _ hs2) ?_
     refine dq rfl (v2 V_neq) ?_
     refine WD.done ?_
     refine WQ.then ?_
     refine W.cond_dec rfl (fun g3 => ?_) (fun g3 => ?_)
     · refine W.seq ?_
       refine W.region ?_
       refine oas ?_
       refine nq ?_
       refine W.ret ?_
       refine WQ.block_ret ?_
       refine WQ.then_ret ?_
       refine WQ.then_ret ?_
       refine WQ.block_ret ?_
       refine WQ.then_ret ?_
       refine WQ.ret1 Try.results42 (.tmp rfl) ?_
       intro w' hp; exact ⟨by rw [decide_eq_false (by rintro rfl; simp_all)], hp.forget⟩
     · refine W.skip ?_
       refine WQ.block_normal ?_
       refine WQ.then ?_
       refine W.region ?_
       refine omv ?_
       first | refine ov vaddN ?_ | refine ov vadd ?_
       refine oas ?_
       refine WL.nil ?_
       exact ag (i + 1) [5, 0, 1, 4, 10] (by (try dsimp only); exact ⟨by omega, fun j hj => by rcases Nat.lt_succ_iff_lt_or_eq.1 hj with h | rfl; exact heq j h; exact Classical.not_not.1 (by assumption)⟩) (by (try dsimp only); omega) rfl cov
   · refine W.exit ?_
     refine WQ.then_exit ?_
     refine WQ.then_exit ?_
     refine WQ.block_hit ?_
     refine WQ.then ?_
     refine sr ?_
     refine oas ?_
     refine nq ?_
     refine W.ret ?_
     refine WQ.ret1 Try.results42 (.tmp rfl) ?_
     intro w' hp; obtain rfl : i = n := by omega
     exact ⟨by rw [decide_eq_true (ext_getD (by omega) (fun j hj => heq j (by omega)))], hp.forget⟩

end Go.Proofs.Ytnpnnafcdnefiaa